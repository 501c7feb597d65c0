/- SettleStays: the walk. -/
import Derived.Test.YteagflekbbchhaaSfM
import Derived.Test.YteagflekbbchhaaSfO
set_option maxRecDepth 100000
namespace Go.Proofs.Yteagflekbbchhaa
open Go.RowKit Go.Proofs

theorem WAt.flip {B : Nat} {w0 w : World} {A : WA} {X : MW} {Pl R : List (Option Blk)} (h : WAt B w0 w A X Pl R) : ∃ K N, Own B w0 w (R ++ (K.M A X ++ N)) ∧ WOk X K N ∧ ∀ y ∈ Pl, y ∈ N := by
  obtain ⟨K, N, hO, hK, hPl⟩ := h
  refine ⟨K, N, hO.perm ?_, hK, hPl⟩
  rw [← List.append_assoc]
  exact List.perm_append_comm
theorem WAt.unflip {B : Nat} {w0 w : World} {A : WA} {X : MW} {K : WC} {N R Pl : List (Option Blk)} (hO : Own B w0 w (R ++ (K.M A X ++ N))) (hK : WOk X K N) (hPl : ∀ y ∈ Pl, y ∈ N) : WAt B w0 w A X Pl R :=
  ⟨K, N, hO.perm (List.perm_append_comm.trans (List.Perm.of_eq (List.append_assoc _ _ _))), hK, hPl⟩
theorem WAt.permR {B : Nat} {w0 w : World} {A : WA} {X : MW} {Pl R R' : List (Option Blk)} (h : WAt B w0 w A X Pl R) (hp : R.Perm R') : WAt B w0 w A X Pl R' := by
  obtain ⟨K, N, hO, hK, hPl⟩ := h
  exact ⟨K, N, hO.perm (List.Perm.append_left _ (List.Perm.append_left _ hp)), hK, hPl⟩

/-- What the statement keeps: the rows of what must stay. -/
structure SS where
  G : Int → Value
  Cb : Int → Option Blk
  L : Int → Nat
  F : Int → Int → Bool
structure SOk (X : MW) (Q : SS) : Prop where
  row : ∀ n, n = 1 ∨ n = 2 → IRow (Q.G n) 4 (Q.L n) (fun j => .bool (Q.F n j)) (Q.Cb n)
  len : ∀ n, n = 1 ∨ n = 2 → Q.L n ≤ X.deals.length
  sf : ∀ n, n = 1 ∨ n = 2 → ∀ j : Int, 0 ≤ j → j < Q.L n → Q.F n j = true → Sf X n (2, j + 1)
def SS.put (Q : SS) (n : Int) (v : Value) (c : Option Blk) (L : Nat) (F : Int → Bool) : SS := ⟨upd Q.G n v, upd Q.Cb n c, fun k => if k = n then L else Q.L k, fun k => if k = n then F else Q.F k⟩
theorem SOk.put {X : MW} {Q : SS} (h : SOk X Q) {n : Int} (_ : n = 1 ∨ n = 2) {v : Value} {c : Option Blk} {L : Nat} {F : Int → Bool} (hr : IRow v 4 L (fun j => .bool (F j)) c) (hl : L ≤ X.deals.length) (hs : ∀ j : Int, 0 ≤ j → j < L → F j = true → Sf X n (2, j + 1)) : SOk X (Q.put n v c L F) := by
  refine ⟨fun k hk => ?_, fun k hk => ?_, fun k hk j h0 h1 hf => ?_⟩
  · show IRow (upd Q.G n v k) _ (if k = n then L else Q.L k) (fun j => .bool ((if k = n then F else Q.F k) j)) (upd Q.Cb n c k)
    unfold upd
    by_cases e : k = n
    · simp only [e, if_true]; exact hr
    · simp only [e, if_false]; exact h.row k hk
  · show (if k = n then L else Q.L k) ≤ _
    split
    · exact hl
    · exact h.len k hk
  · have h1' : j < ((if k = n then L else Q.L k : Nat) : Int) := h1
    have hf' : (if k = n then F else Q.F k) j = true := hf
    by_cases e : k = n
    · subst e
      rw [if_pos rfl] at h1' hf'
      exact hs j h0 h1' hf'
    · rw [if_neg e] at h1' hf'
      exact h.sf k hk j h0 h1' hf'
theorem put_L {Q : SS} {n : Int} {v : Value} {c : Option Blk} {L : Nat} {F : Int → Bool} : (Q.put n v c L F).L n = L := if_pos rfl
theorem put_C {Q : SS} {n : Int} {v : Value} {c : Option Blk} {L : Nat} {F : Int → Bool} : (Q.put n v c L F).Cb n = c := upd_same _ _ _
theorem put_C' {Q : SS} {n k : Int} {v : Value} {c : Option Blk} {L : Nat} {F : Int → Bool} (h : k ≠ n) : (Q.put n v c L F).Cb k = Q.Cb k := upd_ne _ _ h
theorem SOk.keeps {X Y : MW} {Q : SS} (h : SOk X Q) (hk : Keeps X Y) (hl : X.deals.length ≤ Y.deals.length) : SOk Y Q :=
  ⟨h.row, fun n hn => Nat.le_trans (h.len n hn) hl, fun n hn j h0 h1 hf => hk n (N3.s hn) _ (h.sf n hn j h0 h1 hf)⟩
theorem act_len (X : MW) (kind : Int) (d : Dl) (n kept : Int) : X.deals.length ≤ (X.act kind d n kept).deals.length := by
  have key : ∀ Y, cfg Y = cfg X → X.deals.length ≤ Y.deals.length := fun Y h => by rw [cfg_deals h]; exact Nat.le_refl _
  have kb : X.deals.length ≤ (X.begin d).deals.length := by
    have h : cfg (X.begin d) = cfg { X with deals := X.deals ++ [d] } := cfg_turn { X with deals := X.deals ++ [d] } ((X.deals.length : Int) + 1) 1 1
    rw [cfg_deals h]
    simp
  unfold MW.act
  dsimp only
  split
  · split
    · exact kb
    · exact Nat.le_refl _
  · refine key _ ?_
    split
    · split
      · unfold MW.deliver; rw [cfg_bring]; rfl
      · rfl
    · split
      · split <;> rfl
      · split
        · split <;> rfl
        · split
          · split
            · exact cfg_tick0 X n
            · rfl
          · split
            · split
              · exact cfg_crash X n kept
              · rfl
            · split
              · split
                · exact cfg_restart X n
                · rfl
              · split
                · split
                  · exact cfg_unfuse X n _
                  · rfl
                · exact cfg_heal X _
def cur (n : Int) : Int := if n = 2 then 2 else 1
def oth (n : Int) : Int := if n = 2 then 1 else 2
theorem st2 {X : MW} (h : Inv X) {n d : Int} (hn : n = 1 ∨ n = 2) (hr : (2, d) ∈ (X.lg n).recs) : (X.lg n).state d = 2 := by
  have h3 := (h.dec d (h.done n d hn hr).cd).2 n hn
  unfold Lg.state
  rw [if_neg h3, if_pos hr]
theorem dlt_bnd {X : MW} (hG : Good X) {n d : Int} (hd : 1 ≤ d ∧ d ≤ X.deals.length) (l : List Rc) (i : Int) : -1000000000000 ≤ dlt X n l d i ∧ dlt X n l d i ≤ 1000000000000 := by
  have hp := hG.pays (n := n) hd
  unfold dlt
  split
  · split <;> split <;> omega
  · omega
theorem want_bnd {X : MW} (hG : Good X) {n : Int} (hn : n = 1 ∨ n = 2) {k : Int} (h0 : 0 ≤ k) (h1 : k ≤ X.deals.length) (i : Int) : -2000000000000000 ≤ (X.fst n).getD i.toNat 0 + sm (fun j => dlt X n (X.lg n).recs (j + 1) i) k ∧ (X.fst n).getD i.toNat 0 + sm (fun j => dlt X n (X.lg n).recs (j + 1) i) k ≤ 2000000000000000 := by
  have b1 := sm_bound (k := k) 1000000000000 h0 fun j a b => (dlt_bnd hG (n := n) (d := j + 1) (by omega) (X.lg n).recs i).2
  have b2 := sm_bound' (k := k) (-1000000000000) h0 fun j a b => (dlt_bnd hG (n := n) (d := j + 1) (by omega) (X.lg n).recs i).1
  have hdn := hG.dn
  have hf : 0 ≤ (X.fst n).getD i.toNat 0 ∧ (X.fst n).getD i.toNat 0 ≤ 1000000000000 := by
    rw [List.getD_eq_getElem?_getD]
    cases e : (X.fst n)[i.toNat]? with
    | none => simp
    | some x => exact hG.fv n hn x (List.mem_of_getElem? e)
  omega

theorem wantRow {v : Value} {E : TypeId} {l f : List Int} {c : Option Blk} (h : IRow v E (0 + l.length) (joinF (fun _ => iv 0) (0 : Nat) (fun i => iv (gl l i))) c) (e : f = l) : IRow v E f.length (fun i => iv (f.getD i.toNat 0)) c := by
  subst e
  rw [Nat.zero_add] at h
  exact h.congr fun i h0 h1 => by
    unfold joinF
    rw [if_neg (by omega)]
    show iv (f.getD (i - ((0 : Nat) : Int)).toNat 0) = _
    rw [show i - ((0 : Nat) : Int) = i by omega]

def SS.put2 (Q : SS) (n : Int) (c : Option Blk) (F : Int → Bool) : SS := ⟨Q.G, upd Q.Cb n c, Q.L, fun k => if k = n then F else Q.F k⟩
theorem SOk.put2 {X : MW} {Q : SS} (h : SOk X Q) {n : Int} {c : Option Blk} {F : Int → Bool} (hr : IRow (Q.G n) 4 (Q.L n) (fun j => .bool (F j)) c) (hs : ∀ j : Int, 0 ≤ j → j < Q.L n → F j = true → Sf X n (2, j + 1)) : SOk X (Q.put2 n c F) := by
  refine ⟨fun k hk => ?_, h.len, fun k hk j h0 h1 hf => ?_⟩
  · show IRow (Q.G k) _ (Q.L k) (fun j => .bool ((if k = n then F else Q.F k) j)) (upd Q.Cb n c k)
    unfold upd
    by_cases e : k = n
    · subst e; simp only [if_true]; exact hr
    · simp only [e, if_false]; exact h.row k hk
  · have hf' : (if k = n then F else Q.F k) j = true := hf
    by_cases e : k = n
    · subst e
      rw [if_pos rfl] at hf'
      exact hs j h0 h1 hf'
    · rw [if_neg e] at hf'
      exact h.sf k hk j h0 h1 hf'
theorem put2_C {Q : SS} {n : Int} {c : Option Blk} {F : Int → Bool} : (Q.put2 n c F).Cb n = c := upd_same _ _ _
theorem put2_C' {Q : SS} {n k : Int} {c : Option Blk} {F : Int → Bool} (h : k ≠ n) : (Q.put2 n c F).Cb k = Q.Cb k := upd_ne _ _ h
theorem SOk.mark {X : MW} {Q : SS} (h : SOk X Q) {n : Int} (hn : n = 1 ∨ n = 2) {rb zq : Nat} {Gr : Int → Value} {d : Int} {v : Bool} (hG : Q.G n = .slice (some ⟨rb, 0, none⟩) (Q.L n) zq) (hc : Q.L n ≤ zq) (hm : zq ≤ maxLen) (hGr : ∀ i : Int, 0 ≤ i → i < Q.L n → Gr i = .bool (Q.F n i)) (hv : v = true → Sf X n (2, d + 1)) :
    SOk X (Q.put2 n (some (vch rb 4 zq (upd Gr d (.bool v)))) (upd (Q.F n) d v)) := by
  refine h.put2 ?_ fun j h0 h1 hf => ?_
  · rw [hG]
    refine IRow.ofV hc hm fun i h0 h1 => ?_
    unfold upd
    split
    · rfl
    · exact hGr i h0 h1
  · unfold upd at hf
    split at hf
    · next e => rw [e]; exact hv hf
    · exact h.sf n hn j h0 h1 hf
theorem wantStep {X : MW} {n d : Int} {M : Nat} {Gw : Int → Value} (hd : 0 ≤ d) (hr : (2, d + 1) ∈ (X.lg n).recs) (hne : X.payer n (d + 1) ≠ X.payee n (d + 1)) (hp : 0 ≤ X.payer n (d + 1) ∧ X.payer n (d + 1) < M) (hq : 0 ≤ X.payee n (d + 1) ∧ X.payee n (d + 1) < M)
    (h : ∀ i : Int, 0 ≤ i → i < M → Gw i = iv ((X.fst n).getD i.toNat 0 + sm (fun j => dlt X n (X.lg n).recs (j + 1) i) d)) :
    ∀ i : Int, 0 ≤ i → i < M → upd (upd Gw (X.payer n (d + 1)) (iv ((X.fst n).getD (X.payer n (d + 1)).toNat 0 + sm (fun j => dlt X n (X.lg n).recs (j + 1) (X.payer n (d + 1))) d - X.amount n (d + 1)))) (X.payee n (d + 1)) (iv ((X.fst n).getD (X.payee n (d + 1)).toNat 0 + sm (fun j => dlt X n (X.lg n).recs (j + 1) (X.payee n (d + 1))) d + X.amount n (d + 1))) i = iv ((X.fst n).getD i.toNat 0 + sm (fun j => dlt X n (X.lg n).recs (j + 1) i) (d + 1)) := by
  intro i h0 h1
  rw [sm_succ _ hd]
  have e : dlt X n (X.lg n).recs (d + 1) i = (if i = X.payee n (d + 1) then X.amount n (d + 1) else 0) - (if i = X.payer n (d + 1) then X.amount n (d + 1) else 0) := by unfold dlt; rw [if_pos hr]
  rw [e]
  have u : ∀ (g : Int → Value) (p : Int) (v : Value) (x : Int), upd g p v x = if x = p then v else g x := fun _ _ _ _ => rfl
  rw [u, u]
  by_cases q1 : i = X.payee n (d + 1)
  · have q2 : ¬ i = X.payer n (d + 1) := fun e => hne (by rw [← e, q1])
    rw [if_pos q1, if_pos q1, if_neg q2, q1]
    congr 1
    omega
  · rw [if_neg q1, if_neg q1]
    by_cases q2 : i = X.payer n (d + 1)
    · rw [if_pos q2, if_pos q2, q2]; congr 1; omega
    · rw [if_neg q2, if_neg q2, h i h0 h1]; congr 1; omega
theorem wantSame {X : MW} {n d : Int} {M : Nat} {Gw : Int → Value} (hd : 0 ≤ d) (hr : (2, d + 1) ∉ (X.lg n).recs) (h : ∀ i : Int, 0 ≤ i → i < M → Gw i = iv ((X.fst n).getD i.toNat 0 + sm (fun j => dlt X n (X.lg n).recs (j + 1) i) d)) : ∀ i : Int, 0 ≤ i → i < M → Gw i = iv ((X.fst n).getD i.toNat 0 + sm (fun j => dlt X n (X.lg n).recs (j + 1) i) (d + 1)) := by
  intro i h0 h1
  rw [sm_succ _ hd, h i h0 h1]
  have e : dlt X n (X.lg n).recs (d + 1) i = 0 := by unfold dlt; rw [if_neg hr]
  rw [e, Int.add_zero]

section
variable {P : Program} {f N : Nat} {k : List Item} {F : Fr} {w : World} {R : Ending → World → Prop} {ops : Array Oper} {o : Oper} {rest : List Oper}
theorem rt_gundef {j g d : Nat} {b : Bool} {tail : List Oper} (hg : o.guard = some (j, b)) (hj : (ops[j]?).bind (·.dst) = some g) (hb : Fr.get F g = some undef) (hd : o.dst = some d) (hN : Nat.blt d N = true)
    (h : RT P f N ops rest tail k ((d, undef) :: F) w R) : RT P f N ops (o :: rest) tail k F w R := by
  intro a ha
  refine wpStill_step fun K hK => ?_
  have hw : Region.wanted o (yielded ops a.tmps) = false := by
    have e : yielded ops a.tmps j = none := by
      unfold yielded
      rw [hj]
      have := ha.at_ g _ hb
      simp [this, undef]
    simp only [Region.wanted, hg, e]
    rfl
  rw [if_neg (by simp [hw]), hd]
  exact hK _ (h _ (ha.put (lt_of_blt hN) undef))
end
set_option maxHeartbeats 4000000 in
theorem settleStays_any (m p : Int) (a1 a2 lo : Option Addr) (n1 n2 c1 c2 ln lc : Nat) (G1 G2 : Int → Int) (S : Acts) (w : World) (h1 : IAt w.heap.size w a1 n1 (fun i => iv (G1 i))) (h2 : IAt w.heap.size w a2 n2 (fun i => iv (G2 i))) (hl : SAt w.heap.size w lo 7 ln S.l) (hkp : ∀ i, S.kept i ≤ 9223372036854775807) :
    Calls Try.prog 4 #[.agg #[iv m, iv p, .slice a1 n1 c1, .slice a2 n2 c2], .slice lo ln lc] w fun e w' => e = .returned (.bool true) ∧ Below w.heap.size w w' := by
  obtain ⟨lb, loff, hla, hrow⟩ := hl.open (by decide)
  refine calls_of_run (F := [(0, _), (1, _)]) Try.func4 rfl Try.ntmps4 rfl rfl ?_
  refine run_seq ?_
  refine run_region ?_
  refine rl_ow rfl (ow_box _ rfl rfl rfl rfl rfl (Own.init w)) ?_
  rintro _ w1 ⟨b2, rfl, hO2, hs3⟩
  refine rl_v rfl rfl rfl (ov_assign rfl rfl) ?_
  refine rl_nil ?_
  refine run_seq ?_
  refine run_region ?_
  refine rl_v rfl rfl rfl (ov_loadW rfl Try.underlying24 rfl (by kernel_rfl) rfl hO2 0 rfl) ?_
  refine rl_call callable_13 rfl rfl rfl rfl rfl rfl (tame_any m p a1 a2 n1 n2 c1 c2 G1 G2 w.heap.size _ w w1 h1 h2 hO2) (fun e4 w5 hp6 => ?_)
  obtain ⟨mem, pat, f1, f2, v1, v2, k1, k2, rfl, hm, hp, hR1, hR2, ⟨hl1, hl2⟩, hf1, hf2, hOt⟩ := hp6
  refine ⟨_, rfl, ?_⟩
  obtain ⟨s1, z1, rfl⟩ := hR1.val
  obtain ⟨s2, z2, rfl⟩ := hR2.val
  refine rl_ow rfl (ow_alloc _ rfl rfl rfl zero_24 rfl hOt) ?_
  rintro _ w7 ⟨b5, rfl, hO8, hs9⟩
  refine rl_ow rfl (ow_storeW rfl rfl (by kernel_rfl) hO8 0 rfl rfl (by rfl) rfl (by rfl)) ?_
  rintro _ w10 ⟨rfl, hO11, hs12⟩
  refine rl_nil ?_
  refine run_seq ?_
  refine run_region ?_
  refine rl_v rfl rfl rfl (ov_loadW rfl Try.underlying24 rfl (by kernel_rfl) rfl hO11 0 rfl) ?_
  refine rl_call callable_15 rfl rfl rfl rfl rfl rfl (give_any mem pat s1 s2 f1.length f2.length z1 z2 w.heap.size _ w w10 hO11) (fun e13 w14 hp15 => ?_)
  obtain ⟨rfl, hOg⟩ := hp15
  refine ⟨_, rfl, ?_⟩
  refine rl_call callable_14 rfl rfl rfl rfl rfl rfl (newOk mem pat f1 f2 s1 s2 z1 z2 w.heap.size _ w w14 hOg (SrcI.of_row hR1 (k := 1) rfl) (SrcI.of_row hR2 (k := 2) rfl) (by omega) (by omega) hl1 hl2 (lt100 hf1) (lt100 hf2)) (fun e16 w17 hp18 => ?_)
  obtain ⟨A, rfl, hW⟩ := hp18
  refine ⟨_, rfl, ?_⟩
  refine rl_v rfl rfl rfl (ov_move rfl rfl) ?_
  refine rl_v rfl rfl rfl (ov_extract rfl rfl (by rfl)) ?_
  refine rl_v rfl rfl rfl (ov_extract rfl rfl (by rfl)) ?_
  refine rl_v rfl rfl rfl (ov_assign rfl rfl) ?_
  refine rl_v rfl rfl rfl (ov_assign rfl rfl) ?_
  refine rl_nil ?_
  refine run_seq ?_
  refine run_seq ?_
  refine run_region ?_
  refine rl_v rfl rfl rfl (ov_move rfl rfl) ?_
  refine rl_v rfl rfl rfl (ov_neq rfl rfl rfl) ?_
  refine rl_v rfl rfl rfl (ov_move rfl rfl) ?_
  first | refine rl_split_dec 31 rfl (fun g1 => ?_) (fun g1 => ?_) | refine rl_split 31 rfl (fun g1 => ?_) (fun g1 => ?_)
  · refine rl_gskip rfl rfl rfl rfl rfl rfl ?_
    refine rl_gskip rfl rfl rfl rfl rfl rfl ?_
    refine rl_v rfl rfl rfl (ov_pick_t rfl rfl rfl) ?_
    refine rl_nil ?_
    -- cond live ['1:l', '5:own', '6:w', '34:'], written []
    exfalso; exact g1 rfl
  · refine rl_gv rfl rfl rfl rfl rfl (ov_move rfl rfl) ?_
    refine rl_gv rfl rfl rfl rfl rfl (ov_ptrnil rfl Try.underlying27 rfl) ?_
    refine rl_v rfl rfl rfl (ov_pick_f rfl rfl rfl) ?_
    refine rl_nil ?_
    refine run_cond_f rfl ?_
    obtain ⟨RR, hRR⟩ : ∃ RR, RR = some (lch b5 24 [iv mem, iv pat, .slice s1 f1.length z1, .slice s2 f2.length z2]) :: [k1, k2, some (lch b2 24 [iv m, iv p, .slice a1 n1 c1, .slice a2 n2 c2])] := ⟨_, rfl⟩
    replace hW : WAt w.heap.size w w17 A (MW.init mem pat f1 f2) [] RR := by rw [hRR]; exact hW
    have hk1 : k1 ∈ RR := by rw [hRR]; simp
    have hk2 : k2 ∈ RR := by rw [hRR]; simp
    obtain ⟨RT, hRT⟩ : ∃ RT, RR = some (lch b5 24 [iv mem, iv pat, .slice s1 f1.length z1, .slice s2 f2.length z2]) :: RT := ⟨_, hRR⟩
    clear hRR
    obtain ⟨K, N, hO, hK, hPl⟩ := hW.flip
    have hOn := hO.nil_cons.nil_cons
    refine run_skip ?_
    refine run_seq ?_
    refine run_region ?_
    refine rl_ow rfl (ow_allocA 3 rfl rfl rfl zero_48 rfl hOn) ?_
    rintro _ w20 ⟨b8, rfl, hO21, hs22⟩
    have hW0 : WAt w.heap.size w w20 A (MW.init mem pat f1 f2) [] (some (vch b8 48 3 (⟨fun _ => .slice none 0 0, fun _ => none, fun _ => 0, fun _ _ => false⟩ : SS).G) :: none :: none :: RR) := WAt.unflip hO21 hK hPl
    refine rl_nil ?_
    refine run_seq ?_
    refine run_seq ?_
    refine run_region ?_
    refine rl_v rfl rfl rfl (ov_assign rfl rfl) ?_
    refine rl_nil ?_
    refine run_block ?_
    refine Run.keep [1, 5, 6, 8, 9] (F' := [(1, _), (5, _), (6, _), (8, _), (9, _)]) rfl ?_
    refine run_loop3 (fun (i : Int) (X : MW) (Q : SS) => [(9, .int .i64 i)]) [1, 5, 6, 8] (fun (i : Int) (X : MW) (Q : SS) (w23 : World) => 0 ≤ i ∧ i ≤ 60 ∧ LawW mem f1 f2 (120000 * i.toNat) X ∧ SOk X Q ∧ WAt w.heap.size w w23 A X [] (some (vch b8 48 3 Q.G) :: Q.Cb 1 :: Q.Cb 2 :: RR)) (fun (i : Int) (X : MW) (Q : SS) => (60 - i).toNat) (0) (MW.init mem pat f1 f2) (⟨fun _ => .slice none 0 0, fun _ => none, fun _ => 0, fun _ _ => false⟩) ?_ (And.intro (by first | with_reducible rfl | exact slot_int rfl (by first | omega) | rfl) (And.intro rfl (And.intro rfl (And.intro rfl (And.intro rfl trivial))))) ?_
    · exact ⟨by omega, by omega, LawW.init hm (by omega) hl1 hl2 hf1 hf2, ⟨fun n _ => IRow.nil _ _, fun n _ => Nat.zero_le _, fun n _ j h0 h1 => by have : j < 0 := h1; omega⟩, hW0⟩
    intro i X Q w23 hIw23 ih24
    obtain ⟨hi0, hi1, hX, hQ, hW⟩ := hIw23
    show Run _ _ _ _ [(9, _), (1, _), (5, _), (6, _), (8, _)] _ _
    refine run_seq ?_
    refine run_seq ?_
    refine run_region_join 42 (.bool (decide (i < ln ∧ i < 60))) [1, 5, 6, 8, 9] (fun hk25 => ?_) ?_
    · refine rl_v rfl rfl rfl (ov_move rfl rfl) ?_
      refine rl_v rfl rfl rfl (ov_move rfl rfl) ?_
      refine rl_v rfl rfl rfl (ov_len rfl Try.underlying46 rfl) ?_
      refine rl_v rfl rfl rfl (ov_lss rfl rfl rfl) ?_
      refine rl_v rfl rfl rfl (ov_move rfl rfl) ?_
      first | refine rl_split_dec 39 rfl (fun q1 => ?_) (fun q1 => ?_) | refine rl_split 39 rfl (fun q1 => ?_) (fun q1 => ?_)
      · refine rl_gv rfl rfl rfl rfl rfl (ov_move rfl rfl) ?_
        refine rl_gv rfl rfl rfl rfl rfl (ov_lss rfl rfl rfl) ?_
        refine rl_v rfl rfl rfl (ov_pick_t rfl rfl rfl) ?_
        refine rl_nil (hk25 _ (jbd rfl (by omega)) (And.intro rfl (And.intro rfl (And.intro rfl (And.intro rfl (And.intro rfl trivial))))))
      · refine rl_gskip rfl rfl rfl rfl rfl rfl ?_
        refine rl_gskip rfl rfl rfl rfl rfl rfl ?_
        refine rl_v rfl rfl rfl (ov_pick_f rfl rfl rfl) ?_
        refine rl_nil (hk25 _ (jbf rfl (by omega)) (And.intro rfl (And.intro rfl (And.intro rfl (And.intro rfl (And.intro rfl trivial))))))
    · show Run _ _ _ _ [(42, _), (1, _), (5, _), (6, _), (8, _), (9, _)] _ _
      first | refine run_cond_dec rfl (fun q => ?_) (fun qn => ?_) | refine run_cond rfl (fun q => ?_) (fun qn => ?_)
      · obtain ⟨Ka, Na, hOa, hKa, hPla⟩ := hW.pull
        have hphi := hX.phi
        refine run_skip ?_
        refine run_seq ?_
        refine run_block ?_
        refine run_seq ?_
        refine run_region ?_
        refine rl_v rfl rfl rfl (ov_move rfl rfl) ?_
        refine rl_v rfl rfl rfl (ov_move rfl rfl) ?_
        refine rl_v rfl rfl rfl (ov_move rfl rfl) ?_
        refine rl_v rfl rfl rfl (ov_index rfl Try.underlying46 (by kernel_rfl) (s := 7) rfl rfl ⟨by omega, by omega⟩ (by first | rfl | exact (hla (by omega)))) ?_
        refine rl_v rfl rfl rfl (ov_loadE rfl Try.underlying51 rfl (by kernel_rfl) rfl ⟨by omega, by omega⟩ rfl (hrow _ hOa.below)) ?_
        refine rl_call callable_21 rfl rfl rfl rfl rfl rfl (act_any A X (S.kind i) (S.d i) (S.n i) (S.kept i) w.heap.size [] _ w w23 (hkp i) hX.good (by omega) hW) (fun e27 w28 hp29 => ?_)
        obtain ⟨rfl, hWa⟩ := hp29
        refine ⟨_, rfl, ?_⟩
        obtain ⟨hY, hkeep⟩ := hX.act (S.kind i) (S.d i) (S.n i) (S.kept i) (hkp i)
        have hQY := hQ.keeps hkeep (act_len X _ _ _ _)
        generalize X.act (S.kind i) (S.d i) (S.n i) (S.kept i) = Y at *
        clear hQ hkeep hphi
        have hdn := hY.good.dn
        refine rl_nil ?_
        refine run_seq ?_
        refine run_region ?_
        refine rl_v rfl rfl rfl (ov_move rfl rfl) ?_
        refine rl_call callable_22 rfl rfl rfl rfl rfl rfl (deals_any A Y w.heap.size [] _ w w28 hY.good hWa) (fun e30 w31 hp32 => ?_)
        obtain ⟨vd, cD, rfl, hRd, hWd⟩ := hp32
        refine ⟨_, rfl, ?_⟩
        obtain ⟨sd, zd, rfl⟩ := hRd.val
        refine rl_v rfl rfl rfl (ov_assign rfl rfl) ?_
        refine rl_nil ?_
        refine run_seq ?_
        refine run_region ?_
        refine rl_v rfl rfl rfl (ov_assign rfl rfl) ?_
        refine rl_nil ?_
        refine run_block ?_
        refine Run.keep [1, 5, 6, 8, 9, 10, 11] (F' := [(1, _), (5, _), (6, _), (8, _), (9, _), (10, _), (11, _)]) rfl ?_
        refine run_loop2 (fun (n : Int) (Q : SS) => [(11, .int .i64 n)]) [1, 5, 6, 8, 9, 10] (fun (n : Int) (Q : SS) (w33 : World) => 1 ≤ n ∧ n ≤ 3 ∧ SOk Y Q ∧ WAt w.heap.size w w33 A Y [] (cD :: some (vch b8 48 3 Q.G) :: Q.Cb (cur n) :: Q.Cb (oth n) :: RR)) (fun (n : Int) (Q : SS) => (3 - n).toNat) (1) (Q) ?_ (And.intro (by first | with_reducible rfl | exact slot_int rfl (by first | omega) | rfl) (And.intro rfl (And.intro rfl (And.intro rfl (And.intro rfl (And.intro rfl (And.intro rfl trivial))))))) ?_
        · exact ⟨by omega, by omega, hQY, hWd⟩
        intro n Q w33 hIw33 ih34
        obtain ⟨hn1, hn2, hQ, hWn⟩ := hIw33
        show Run _ _ _ _ [(11, _), (1, _), (5, _), (6, _), (8, _), (9, _), (10, _)] _ _
        refine run_seq ?_
        refine run_seq ?_
        refine run_region ?_
        refine rl_v rfl rfl rfl (ov_move rfl rfl) ?_
        refine rl_v rfl rfl rfl (ov_lss rfl rfl rfl) ?_
        refine rl_nil ?_
        first | refine run_cond_dec rfl (fun hn3 => ?_) (fun hn3n => ?_) | refine run_cond rfl (fun hn3 => ?_) (fun hn3n => ?_)
        · have hn : n = 1 ∨ n = 2 := by omega
          have ec : cur n = n := by unfold cur; split <;> omega
          rw [ec] at hWn
          have hfl := hY.good.fl n hn
          have hmem := hY.good.mem
          refine run_skip ?_
          refine run_seq ?_
          refine run_block ?_
          refine run_seq ?_
          refine run_region ?_
          refine rl_v rfl rfl rfl (ov_move rfl rfl) ?_
          refine rl_v rfl rfl rfl (ov_move rfl rfl) ?_
          refine rl_call callable_23 rfl rfl rfl rfl rfl rfl (log_any A Y n w.heap.size [] _ w w33 (by omega) hWn) (fun e35 w36 hp37 => ?_)
          obtain ⟨rfl, hWl⟩ := hp37
          refine ⟨_, rfl, ?_⟩
          obtain ⟨Kb, Nb, hOb, hKb, hPlb⟩ := hWl.flip
          rw [hRT] at hOb
          have hOc := hOb.nil_cons
          have hmk1 : k1 ∈ none :: ((cD :: some (vch b8 48 3 Q.G) :: Q.Cb n :: Q.Cb (oth n) :: RR) ++ (Kb.M A Y ++ Nb)) := List.mem_cons_of_mem _ (List.mem_append_left _ (by simp [hk1]))
          have hmk2 : k2 ∈ none :: ((cD :: some (vch b8 48 3 Q.G) :: Q.Cb n :: Q.Cb (oth n) :: RR) ++ (Kb.M A Y ++ Nb)) := List.mem_cons_of_mem _ (List.mem_append_left _ (by simp [hk2]))
          rw [hRT] at hmk1 hmk2
          refine rl_v rfl rfl rfl (ov_move rfl rfl) ?_
          refine rl_v rfl rfl rfl (ov_extract rfl rfl (by rfl)) ?_
          refine rl_v rfl rfl rfl (ov_extract rfl rfl (by rfl)) ?_
          refine rl_v rfl rfl rfl (ov_assign rfl rfl) ?_
          refine rl_v rfl rfl rfl (ov_assign rfl rfl) ?_
          refine rl_nil ?_
          refine run_seq ?_
          refine run_region ?_
          refine rl_v rfl rfl rfl (ov_assign rfl rfl) ?_
          refine rl_nil ?_
          refine run_seq ?_
          refine run_seq ?_
          refine run_region ?_
          refine rl_v rfl rfl rfl (ov_move rfl rfl) ?_
          refine rl_v rfl rfl rfl (ov_eql rfl rfl rfl) ?_
          refine rl_nil ?_
          -- cond live ['1:l', '5:own', '6:w', '8:stays', '9:i', '10:deals', '11:n', '12:all', '13:safe', '14:want', '64:'], written [14]
          refine Run.keep [1, 5, 6, 8, 9, 10, 11, 12, 13, 14, 64] (F' := [(1, _), (5, _), (6, _), (8, _), (9, _), (10, _), (11, _), (12, _), (13, _), (14, _), (64, _)]) rfl ?_
          refine run_join2 (fun (wv : Value) (cw : Option Blk) => [(14, wv)]) [1, 5, 6, 8, 9, 10, 11, 12, 13] (fun (wv : Value) (cw : Option Blk) (w38 : World) => IRow wv 2 (Y.fst n).length (fun i => iv ((Y.fst n).getD i.toNat 0)) cw ∧ WAt w.heap.size w w38 A Y [] (cw :: cD :: some (vch b8 48 3 Q.G) :: Q.Cb n :: Q.Cb (oth n) :: RR)) (fun hk39 => ?_) ?_
          · first | refine run_cond_dec rfl (fun e1 => ?_) (fun e1n => ?_) | refine run_cond rfl (fun e1 => ?_) (fun e1n => ?_)
            · have hr0 : IRow (.slice none 0 0) 2 0 (fun _ => iv 0) none := IRow.nil _ _
              refine run_region ?_
              refine rl_v rfl rfl rfl (ov_move rfl rfl) ?_
              refine rl_v rfl rfl rfl (ov_fieldS rfl Try.underlying24 rfl (fo := 2) rfl (by kernel_rfl) rfl) ?_
              refine rl_v rfl rfl rfl (ov_load rfl Try.underlying22 rfl rfl (by first | exact hOc.cellL 5 rfl (off := 2) rfl)) ?_
              refine rl_ow rfl (ow_appS rfl rfl rfl Try.underlying22 info_2 rfl hOc 0 hr0 rfl rfl rfl (((SrcI.of_mem hR1 hmk1) _ _ _ hOc)) (fun _ => rfl) ⟨by omega, by omega⟩) ?_
              rintro _ w40 ⟨v68, c68, rfl, hO41, hr68, hs42⟩
              refine rl_v rfl rfl rfl (ov_assign rfl rfl) ?_
              refine rl_nil ?_
              refine Run.use (hk39 (v68) (c68) _ ?_) (And.intro rfl (And.intro rfl (And.intro rfl (And.intro rfl (And.intro rfl (And.intro rfl (And.intro rfl (And.intro rfl (And.intro rfl (And.intro rfl trivial))))))))))
              exact ⟨wantRow hr68 (by rw [show Y.fst n = Y.f1 by unfold MW.fst; rw [if_pos e1], hY.f1]), WAt.unflip (by rw [hRT]; exact hO41) hKb hPlb⟩
            · have hr0 : IRow (.slice none 0 0) 2 0 (fun _ => iv 0) none := IRow.nil _ _
              refine run_region ?_
              refine rl_v rfl rfl rfl (ov_move rfl rfl) ?_
              refine rl_v rfl rfl rfl (ov_fieldS rfl Try.underlying24 rfl (fo := 3) rfl (by kernel_rfl) rfl) ?_
              refine rl_v rfl rfl rfl (ov_load rfl Try.underlying22 rfl rfl (by first | exact hOc.cellL 5 rfl (off := 3) rfl)) ?_
              refine rl_ow rfl (ow_appS rfl rfl rfl Try.underlying22 info_2 rfl hOc 0 hr0 rfl rfl rfl (((SrcI.of_mem hR2 hmk2) _ _ _ hOc)) (fun _ => rfl) ⟨by omega, by omega⟩) ?_
              rintro _ w43 ⟨v72, c72, rfl, hO44, hr72, hs45⟩
              refine rl_v rfl rfl rfl (ov_assign rfl rfl) ?_
              refine rl_nil ?_
              refine Run.use (hk39 (v72) (c72) _ ?_) (And.intro rfl (And.intro rfl (And.intro rfl (And.intro rfl (And.intro rfl (And.intro rfl (And.intro rfl (And.intro rfl (And.intro rfl (And.intro rfl trivial))))))))))
              exact ⟨wantRow hr72 (by rw [show Y.fst n = Y.f2 by unfold MW.fst; rw [if_neg e1n], hY.f2]), WAt.unflip (by rw [hRT]; exact hO44) hKb hPlb⟩
          · intro wv cw w38 hJw38
            obtain ⟨hRw, hWj⟩ := hJw38
            show Run _ _ _ _ [(14, _), (1, _), (5, _), (6, _), (8, _), (9, _), (10, _), (11, _), (12, _), (13, _)] _ _
            obtain ⟨sw, zw, rfl⟩ := hRw.val
            obtain ⟨bw, Gw0, rfl, hwc, hwm, rfl, hGw0⟩ := hRw.asV (by omega)
            have ho : oth n ≠ n := by unfold oth; split <;> omega
            have hwn : (Y.fst n).length ≤ 1000 := by omega
            refine run_seq ?_
            refine run_seq ?_
            refine run_region ?_
            refine rl_v rfl rfl rfl (ov_assign rfl rfl) ?_
            refine rl_nil ?_
            refine run_block ?_
            refine Run.keep [1, 5, 6, 8, 9, 10, 11, 12, 13, 14, 15] (F' := [(1, _), (5, _), (6, _), (8, _), (9, _), (10, _), (11, _), (12, _), (13, _), (14, _), (15, _)]) rfl ?_
            refine run_loop3 (fun (d : Int) (Q : SS) (Gw : Int → Value) => [(15, .int .i64 d)]) [1, 5, 6, 8, 9, 10, 11, 12, 13, 14] (fun (d : Int) (Q : SS) (Gw : Int → Value) (w46 : World) => 0 ≤ d ∧ d ≤ Y.deals.length ∧ SOk Y Q ∧ d ≤ Q.L n ∧ (∀ i : Int, 0 ≤ i → i < (Y.fst n).length → Gw i = iv ((Y.fst n).getD i.toNat 0 + sm (fun j => dlt Y n (Y.lg n).recs (j + 1) i) d)) ∧ WAt w.heap.size w w46 A Y [] (some (vch bw 2 zw Gw) :: cD :: some (vch b8 48 3 Q.G) :: Q.Cb n :: Q.Cb (oth n) :: RR)) (fun (d : Int) (Q : SS) (Gw : Int → Value) => ((Y.deals.length : Int) - d).toNat) (0) (Q) (Gw0) ?_ (And.intro (by first | with_reducible rfl | exact slot_int rfl (by first | omega) | rfl) (And.intro rfl (And.intro rfl (And.intro rfl (And.intro rfl (And.intro rfl (And.intro rfl (And.intro rfl (And.intro rfl (And.intro rfl (And.intro rfl trivial))))))))))) ?_
            · exact ⟨by omega, by omega, hQ, by omega, fun i h0 h1 => by rw [hGw0 i h0 h1, sm_zero, Int.add_zero], hWj⟩
            intro d Q Gw w46 hIw46 ih47
            obtain ⟨hd0, hd1, hQ, hdL, hGw, hWd⟩ := hIw46
            show Run _ _ _ _ [(15, _), (1, _), (5, _), (6, _), (8, _), (9, _), (10, _), (11, _), (12, _), (13, _), (14, _)] _ _
            refine run_seq ?_
            refine run_seq ?_
            refine run_region ?_
            refine rl_v rfl rfl rfl (ov_move rfl rfl) ?_
            refine rl_v rfl rfl rfl (ov_move rfl rfl) ?_
            refine rl_v rfl rfl rfl (ov_len rfl Try.underlying52 rfl) ?_
            refine rl_v rfl rfl rfl (ov_lss rfl rfl rfl) ?_
            refine rl_nil ?_
            first | refine run_cond_dec rfl (fun hdl => ?_) (fun hdl => ?_) | refine run_cond rfl (fun hdl => ?_) (fun hdl => ?_)
            · refine run_skip ?_
              refine run_seq ?_
              refine run_block ?_
              refine run_seq ?_
              refine run_region ?_
              refine rl_v rfl rfl rfl (ov_move rfl rfl) ?_
              refine rl_v rfl rfl rfl (ov_move rfl rfl) ?_
              refine rl_v rfl rfl rfl (ov_move rfl rfl) ?_
              refine rl_v rfl rfl rfl (ov_add rfl rfl rfl (by omega)) ?_
              refine rl_call callable_19 rfl rfl rfl rfl rfl rfl (at_any A Y n (d + 1) w.heap.size [] _ w w46 hn hY.good hWd) (fun e48 w49 hp50 => ?_)
              obtain ⟨rfl, hWa⟩ := hp50
              refine ⟨_, rfl, ?_⟩
              have hdr : 1 ≤ d + 1 ∧ d + 1 ≤ Y.deals.length := by omega
              have hst : (2, d + 1) ∈ (Y.lg n).recs → (Y.lg n).state (d + 1) = 2 := st2 hY.inv hn
              have hst2 : (Y.lg n).state (d + 1) = 2 → (2, d + 1) ∈ (Y.lg n).recs := state_2
              obtain ⟨Kc, Nc, hOc, hKc, hPlc⟩ := hWa.flip
              have hrq := hQ.row n hn
              obtain ⟨sq, zq, hGq⟩ := hrq.val
              rw [hGq] at hrq
              refine rl_v rfl rfl rfl (ov_eql rfl rfl rfl) ?_
              refine rl_v rfl rfl rfl (ov_assign rfl rfl) ?_
              refine rl_nil ?_
              refine run_seq ?_
              refine run_seq ?_
              refine run_region ?_
              refine rl_v rfl rfl rfl (ov_move rfl rfl) ?_
              refine rl_v rfl rfl rfl (ov_move rfl rfl) ?_
              refine rl_v rfl rfl rfl (ov_indexA1 rfl Try.underlying48 (by kernel_rfl) rfl rfl ⟨by omega, by omega⟩) ?_
              refine rl_v rfl rfl rfl (ov_load rfl Try.underlying47 rfl rfl (by first | exact (hOc.cellI 2 rfl n (by omega) (by omega)).trans (congrArg some hGq))) ?_
              refine rl_v rfl rfl rfl (ov_len rfl Try.underlying47 rfl) ?_
              refine rl_v rfl rfl rfl (ov_eql rfl rfl rfl) ?_
              refine rl_nil ?_
              -- cond live ['1:l', '5:own', '6:w', '8:stays', '9:i', '10:deals', '11:n', '12:all', '13:safe', '14:want', '15:d', '16:is', '90:'], written []
              refine Run.keep [1, 5, 6, 8, 9, 10, 11, 12, 13, 14, 15, 16, 90] (F' := [(1, _), (5, _), (6, _), (8, _), (9, _), (10, _), (11, _), (12, _), (13, _), (14, _), (15, _), (16, _), (90, _)]) rfl ?_
              refine run_join1 (fun (Q : SS) => []) [1, 5, 6, 8, 9, 10, 11, 12, 13, 14, 15, 16] (fun (Q : SS) (w51 : World) => SOk Y Q ∧ d < Q.L n ∧ WAt w.heap.size w w51 A Y [] (some (vch bw 2 zw Gw) :: cD :: some (vch b8 48 3 Q.G) :: Q.Cb n :: Q.Cb (oth n) :: RR)) (fun hk52 => ?_) ?_
              · first | refine run_cond_dec rfl (fun l1 => ?_) (fun l1n => ?_) | refine run_cond rfl (fun l1 => ?_) (fun l1n => ?_)
                · refine run_seq ?_
                  refine run_region ?_
                  refine rl_v rfl rfl rfl (ov_move rfl rfl) ?_
                  refine rl_v rfl rfl rfl (ov_indexA1 rfl Try.underlying48 (by kernel_rfl) rfl rfl ⟨by omega, by omega⟩) ?_
                  refine rl_v rfl rfl rfl (ov_load rfl Try.underlying47 rfl rfl (by first | exact (hOc.cellI 2 rfl n (by omega) (by omega)).trans (congrArg some hGq))) ?_
                  refine rl_v rfl rfl rfl (ov_assign rfl rfl) ?_
                  refine rl_nil ?_
                  refine run_seq ?_
                  refine run_region ?_
                  refine rl_v rfl rfl rfl (ov_move rfl rfl) ?_
                  refine rl_appB rfl rfl rfl rfl rfl rfl rfl rfl Try.underlying47 info_4 rfl hOc 3 hrq rfl rfl rfl ⟨by omega, by omega⟩ (fun v96 c96 w53 hO54 hr96 hs55 => ?_)
                  obtain ⟨s96, z96, rfl⟩ := hr96.val
                  refine rl_v rfl rfl rfl (ov_assign rfl rfl) ?_
                  refine rl_nil ?_
                  refine run_region ?_
                  refine rl_v rfl rfl rfl (ov_move rfl rfl) ?_
                  refine rl_v rfl rfl rfl (ov_move rfl rfl) ?_
                  refine rl_v rfl rfl rfl (ov_indexA1 rfl Try.underlying48 (by kernel_rfl) rfl rfl ⟨by omega, by omega⟩) ?_
                  refine rl_ow rfl (ow_store rfl rfl (by kernel_rfl) hO54 2 rfl rfl ⟨by omega, by omega⟩ rfl rfl) ?_
                  rintro _ w56 ⟨rfl, hO57, hs58⟩
                  refine rl_nil ?_
                  refine Run.use (hk52 (Q.put n (.slice s96 (Q.L n + 1) z96) c96 (Q.L n + 1) (upd (Q.F n) (Q.L n) false)) _ ?_) (And.intro rfl (And.intro rfl (And.intro rfl (And.intro rfl (And.intro rfl (And.intro rfl (And.intro rfl (And.intro rfl (And.intro rfl (And.intro rfl (And.intro rfl (And.intro rfl trivial))))))))))))
                  exact ⟨hQ.put hn (hr96.congr fun i _ _ => by unfold upd; split <;> rfl) (by omega) (fun j h0 h1 hf => by unfold upd at hf; split at hf; exact Bool.noConfusion hf; exact hQ.sf n hn j h0 (by omega) hf), by rw [put_L]; omega, by rw [put_C, put_C' ho]; exact WAt.unflip hO57 hKc hPlc⟩
                · refine run_skip ?_
                  refine Run.use (hk52 (Q) _ ?_) (And.intro rfl (And.intro rfl (And.intro rfl (And.intro rfl (And.intro rfl (And.intro rfl (And.intro rfl (And.intro rfl (And.intro rfl (And.intro rfl (And.intro rfl (And.intro rfl trivial))))))))))))
                  exact ⟨hQ, by omega, WAt.unflip hOc hKc hPlc⟩
              · intro Q w51 hJw51
                obtain ⟨hQ, hdL, hWa⟩ := hJw51
                show Run _ _ _ _ [(1, _), (5, _), (6, _), (8, _), (9, _), (10, _), (11, _), (12, _), (13, _), (14, _), (15, _), (16, _)] _ _
                clear hOc hKc hPlc hrq hGq
                have hrq := hQ.row n hn
                obtain ⟨sq, zq, hGq⟩ := hrq.val
                rw [hGq] at hrq
                obtain ⟨rb, Gr, rfl, hrc, hrm, hcb, hGr⟩ := hrq.asV (by omega)
                obtain ⟨Kd, Nd, hOd, hKd, hPld⟩ := hWa.flip
                rw [hcb] at hOd
                refine run_seq ?_
                refine run_seq ?_
                refine run_region ?_
                refine rl_v rfl rfl rfl (ov_move rfl rfl) ?_
                refine rl_v rfl rfl rfl (ov_indexA1 rfl Try.underlying48 (by kernel_rfl) rfl rfl ⟨by omega, by omega⟩) ?_
                refine rl_v rfl rfl rfl (ov_load rfl Try.underlying47 rfl rfl (by first | exact (hOd.cellI 2 rfl n (by omega) (by omega)).trans (congrArg some hGq))) ?_
                refine rl_v rfl rfl rfl (ov_move rfl rfl) ?_
                refine rl_v rfl rfl rfl (ov_index1 rfl Try.underlying47 (by kernel_rfl) rfl rfl ⟨by omega, by omega⟩ (by first | rfl | exact (hla (by omega)))) ?_
                refine rl_v rfl rfl rfl (ov_load rfl Try.underlying4 rfl rfl (by first | exact (hOd.cellI 3 rfl _ (by omega) (by omega)).trans (congrArg some (hGr d (by omega) (by omega))))) ?_
                refine rl_v rfl rfl rfl (ov_move rfl rfl) ?_
                first | refine rl_split_dec 106 rfl (fun u1 => ?_) (fun u1 => ?_) | refine rl_split 106 rfl (fun u1 => ?_) (fun u1 => ?_)
                · refine rl_gv rfl rfl rfl rfl rfl (ov_move rfl rfl) ?_
                  refine rl_gv rfl rfl rfl rfl rfl (ov_not rfl rfl) ?_
                  refine rl_v rfl rfl rfl (ov_pick_t rfl rfl rfl) ?_
                  refine rl_nil ?_
                  first | refine run_cond_dec rfl (fun bad => ?_) (fun ok => ?_) | refine run_cond rfl (fun bad => ?_) (fun ok => ?_)
                  · exfalso; rw [hst (hQ.sf n hn d hd0 hdL u1).mem] at bad; exact Bool.noConfusion bad
                  · refine run_skip ?_
                    refine run_seq ?_
                    -- region live ['1:l', '5:own', '6:w', '8:stays', '9:i', '10:deals', '11:n', '12:all', '13:safe', '14:want', '15:d', '16:is'], written []
                    refine Run.keep [1, 5, 6, 8, 9, 10, 11, 12, 13, 14, 15, 16] (F' := [(1, _), (5, _), (6, _), (8, _), (9, _), (10, _), (11, _), (12, _), (13, _), (14, _), (15, _), (16, _)]) rfl ?_
                    refine run_join1 (fun (Q : SS) => []) [1, 5, 6, 8, 9, 10, 11, 12, 13, 14, 15, 16] (fun (Q : SS) (w60 : World) => SOk Y Q ∧ d < Q.L n ∧ WAt w.heap.size w w60 A Y [] (some (vch bw 2 zw Gw) :: cD :: some (vch b8 48 3 Q.G) :: Q.Cb n :: Q.Cb (oth n) :: RR)) (fun hk61 => ?_) ?_
                    · refine run_tail 19 mixed (by kernel_rfl) ?_
                      have hO63 := hOd.drew
                      generalize World.drew w51 = w62 at hO63 ⊢
                      refine rt_v rfl rfl rfl (ov_move rfl rfl) ?_
                      refine rt_v rfl rfl rfl (ov_indexA1 rfl Try.underlying48 (by kernel_rfl) rfl rfl ⟨by omega, by omega⟩) ?_
                      refine rt_v rfl rfl rfl (ov_load rfl Try.underlying47 rfl rfl (by first | exact (hO63.cellI 2 rfl n (by omega) (by omega)).trans (congrArg some hGq))) ?_
                      refine rt_v rfl rfl rfl (ov_move rfl rfl) ?_
                      refine rt_v rfl rfl rfl (ov_move rfl rfl) ?_
                      refine rt_v rfl rfl rfl (ov_indexA1 rfl Try.underlying48 (by kernel_rfl) rfl rfl ⟨by omega, by omega⟩) ?_
                      refine rt_v rfl rfl rfl (ov_load rfl Try.underlying47 rfl rfl (by first | exact (hO63.cellI 2 rfl n (by omega) (by omega)).trans (congrArg some hGq))) ?_
                      refine rt_v rfl rfl rfl (ov_move rfl rfl) ?_
                      refine rt_v rfl rfl rfl (ov_index1 rfl Try.underlying47 (by kernel_rfl) rfl rfl ⟨by omega, by omega⟩ (by first | rfl | exact (hla (by omega)))) ?_
                      refine rt_v rfl rfl rfl (ov_load rfl Try.underlying4 rfl rfl (by first | exact (hO63.cellI 3 rfl _ (by omega) (by omega)).trans (congrArg some (hGr d (by omega) (by omega))))) ?_
                      refine rt_v rfl rfl rfl (ov_move rfl rfl) ?_
                      first | refine rt_split_dec 120 rfl (fun a1 => ?_) (fun a1 => ?_) | refine rt_split 120 rfl (fun a1 => ?_) (fun a1 => ?_)
                      · refine rt_gskip rfl rfl rfl rfl rfl rfl ?_
                        refine rt_gskip rfl rfl rfl rfl rfl rfl ?_
                        refine rt_gundef rfl rfl rfl rfl rfl ?_
                        refine rt_gundef rfl rfl rfl rfl rfl ?_
                        refine rt_gundef rfl rfl rfl rfl rfl ?_
                        refine rt_gskip rfl rfl rfl rfl rfl rfl ?_
                        refine rt_v rfl rfl rfl (ov_pick_t rfl rfl rfl) ?_
                        refine rt_v rfl rfl rfl (ov_index1 rfl Try.underlying47 (by kernel_rfl) rfl rfl ⟨by omega, by omega⟩ (by first | rfl | exact (hla (by omega)))) ?_
                        refine rt_nil ?_
                        refine rl_ow rfl (ow_store rfl rfl (by kernel_rfl) hO63 3 rfl rfl ⟨by omega, by omega⟩ rfl rfl) ?_
                        rintro _ w65 ⟨rfl, hO66, hs67⟩
                        refine rl_nil ?_
                        refine Run.use (hk61 (Q.put2 n (some (vch rb 4 zq (upd Gr d (.bool (true))))) (upd (Q.F n) d (true))) _ ?_) (And.intro rfl (And.intro rfl (And.intro rfl (And.intro rfl (And.intro rfl (And.intro rfl (And.intro rfl (And.intro rfl (And.intro rfl (And.intro rfl (And.intro rfl (And.intro rfl trivial))))))))))))
                        exact ⟨hQ.mark hn hGq hrc hrm hGr (fun _ => hQ.sf n hn d hd0 hdL a1), hdL, by rw [put2_C, put2_C' ho]; exact WAt.unflip hO66 hKd hPld⟩
                      · refine rt_gv rfl rfl rfl rfl rfl (ov_move rfl rfl) ?_
                        refine rt_gv rfl rfl rfl rfl rfl (ov_move rfl rfl) ?_
                        first | refine rt_split_dec 122 rfl (fun a2 => ?_) (fun a2 => ?_) | refine rt_split 122 rfl (fun a2 => ?_) (fun a2 => ?_)
                        · refine rt_gv rfl rfl rfl rfl rfl (ov_move rfl rfl) ?_
                          refine rt_gv rfl rfl rfl rfl rfl (ov_move rfl rfl) ?_
                          refine rt_gv rfl rfl rfl rfl rfl (ov_eql rfl rfl rfl) ?_
                          refine rt_gv rfl rfl rfl rfl rfl (ov_pick_t rfl rfl rfl) ?_
                          refine rt_v rfl rfl rfl (ov_pick_f rfl rfl rfl) ?_
                          refine rt_v rfl rfl rfl (ov_index1 rfl Try.underlying47 (by kernel_rfl) rfl rfl ⟨by omega, by omega⟩ (by first | rfl | exact (hla (by omega)))) ?_
                          refine rt_nil ?_
                          refine rl_ow rfl (ow_store rfl rfl (by kernel_rfl) hO63 3 rfl rfl ⟨by omega, by omega⟩ rfl rfl) ?_
                          rintro _ w69 ⟨rfl, hO70, hs71⟩
                          refine rl_nil ?_
                          refine Run.use (hk61 (Q.put2 n (some (vch rb 4 zq (upd Gr d (.bool (decide (((Y.lg n).recs.length : Int) = (Y.lg n).safe)))))) (upd (Q.F n) d (decide (((Y.lg n).recs.length : Int) = (Y.lg n).safe)))) _ ?_) (And.intro rfl (And.intro rfl (And.intro rfl (And.intro rfl (And.intro rfl (And.intro rfl (And.intro rfl (And.intro rfl (And.intro rfl (And.intro rfl (And.intro rfl (And.intro rfl trivial))))))))))))
                          exact ⟨hQ.mark hn hGq hrc hrm hGr (fun hv => Sf.of_mem (by have := of_decide_eq_true hv; omega) (hst2 a2)), hdL, by rw [put2_C, put2_C' ho]; exact WAt.unflip hO70 hKd hPld⟩
                        · refine rt_gskip rfl rfl rfl rfl rfl rfl ?_
                          refine rt_gskip rfl rfl rfl rfl rfl rfl ?_
                          refine rt_gskip rfl rfl rfl rfl rfl rfl ?_
                          refine rt_gv rfl rfl rfl rfl rfl (ov_pick_f rfl rfl rfl) ?_
                          refine rt_v rfl rfl rfl (ov_pick_f rfl rfl rfl) ?_
                          refine rt_v rfl rfl rfl (ov_index1 rfl Try.underlying47 (by kernel_rfl) rfl rfl ⟨by omega, by omega⟩ (by first | rfl | exact (hla (by omega)))) ?_
                          refine rt_nil ?_
                          refine rl_ow rfl (ow_store rfl rfl (by kernel_rfl) hO63 3 rfl rfl ⟨by omega, by omega⟩ rfl rfl) ?_
                          rintro _ w72 ⟨rfl, hO73, hs74⟩
                          refine rl_nil ?_
                          refine Run.use (hk61 (Q.put2 n (some (vch rb 4 zq (upd Gr d (.bool (false))))) (upd (Q.F n) d (false))) _ ?_) (And.intro rfl (And.intro rfl (And.intro rfl (And.intro rfl (And.intro rfl (And.intro rfl (And.intro rfl (And.intro rfl (And.intro rfl (And.intro rfl (And.intro rfl (And.intro rfl trivial))))))))))))
                          exact ⟨hQ.mark hn hGq hrc hrm hGr (fun h => Bool.noConfusion h), hdL, by rw [put2_C, put2_C' ho]; exact WAt.unflip hO73 hKd hPld⟩
                    · intro Q w60 hJw60
                      obtain ⟨hQ, hdL, hWb⟩ := hJw60
                      show Run _ _ _ _ [(1, _), (5, _), (6, _), (8, _), (9, _), (10, _), (11, _), (12, _), (13, _), (14, _), (15, _), (16, _)] _ _
                      refine run_seq ?_
                      refine run_seq ?_
                      refine run_region ?_
                      refine rl_v rfl rfl rfl (ov_move rfl rfl) ?_
                      refine rl_v rfl rfl rfl (ov_not rfl rfl) ?_
                      refine rl_nil ?_
                      first | refine run_cond_dec rfl (fun ni => ?_) (fun nin => ?_) | refine run_cond rfl (fun ni => ?_) (fun nin => ?_)
                      · have hni : ¬ (Y.lg n).state (d + 1) = 2 := by simpa using ni
                        refine run_exit rfl ?_
                        refine run_region ?_
                        refine rl_v rfl rfl rfl (ov_move rfl rfl) ?_
                        refine rl_v rfl rfl rfl (ov_add rfl rfl rfl (by omega)) ?_
                        refine rl_v rfl rfl rfl (ov_assign rfl rfl) ?_
                        refine rl_nil ?_
                        refine Run.use (ih47 (d + 1) (Q) (Gw) _ ?_ ?_) (And.intro (by first | with_reducible rfl | exact slot_int rfl (by first | omega) | rfl) (And.intro rfl (And.intro rfl (And.intro rfl (And.intro rfl (And.intro rfl (And.intro rfl (And.intro rfl (And.intro rfl (And.intro rfl (And.intro rfl trivial)))))))))))
                        · first | omega | (dsimp only; omega)
                        · exact ⟨by omega, by omega, hQ, by omega, wantSame hd0 (fun h => hni (hst h)) hGw, hWb⟩
                      · have his : (2, d + 1) ∈ (Y.lg n).recs := hst2 (by simpa using nin)
                        obtain ⟨Ke, Ne, hOe, hKe, hPle⟩ := hWb.flip
                        obtain ⟨db, dof, hda, hdrow⟩ := (Src.of_row hRd (k := 1) rfl _ _ _ hOe).open (by decide)
                        refine run_skip ?_
                        refine run_seq ?_
                        refine run_region ?_
                        refine rl_v rfl rfl rfl (ov_move rfl rfl) ?_
                        refine rl_v rfl rfl rfl (ov_move rfl rfl) ?_
                        refine rl_v rfl rfl rfl (ov_index rfl Try.underlying52 (by kernel_rfl) (s := 4) rfl rfl ⟨by omega, by omega⟩ (by first | rfl | exact (hda (by omega)))) ?_
                        refine rl_v rfl rfl rfl (ov_loadE rfl Try.underlying41 rfl (by kernel_rfl) rfl ⟨by omega, by omega⟩ rfl (hdrow _ (Below.refl _ _))) ?_
                        refine rl_ow rfl (ow_alloc _ rfl rfl rfl zero_41 rfl hOe) ?_
                        rintro _ w75 ⟨b18, rfl, hO76, hs77⟩
                        refine rl_ow rfl (ow_storeW rfl rfl (by kernel_rfl) hO76 0 rfl rfl (by rfl) rfl (by rfl)) ?_
                        rintro _ w78 ⟨rfl, hO79, hs80⟩
                        have hxo := hY.good.dl (d + 1) hdr.1 hdr.2
                        have hxe : Y.deal (d + 1) = Y.deals.getD d.toNat Dl.z := by unfold MW.deal; rw [show (d + 1 - 1).toNat = d.toNat by omega]
                        have hpy := hY.good.pays (n := n) hdr
                        have bnd := want_bnd hY.good hn hd0 hd1
                        have hws := wantStep (M := (Y.fst n).length) hd0 his hpy.2.2.1 (by omega) (by omega) hGw
                        have hpe : Y.payer n (d + 1) = if n = 1 then (Y.deals.getD d.toNat Dl.z).b - 1 else (Y.deals.getD d.toNat Dl.z).s - 1 := by unfold MW.payer; rw [hxe]
                        have hqe : Y.payee n (d + 1) = if n = 1 then (Y.deals.getD d.toNat Dl.z).s - 1 else (Y.deals.getD d.toNat Dl.z).b - 1 := by unfold MW.payee; rw [hxe]
                        have hae : Y.amount n (d + 1) = if n = 1 then (Y.deals.getD d.toNat Dl.z).m else (Y.deals.getD d.toNat Dl.z).g := by unfold MW.amount; rw [hxe]
                        refine rl_nil ?_
                        refine run_seq ?_
                        refine run_region ?_
                        refine rl_v rfl rfl rfl (ov_move rfl rfl) ?_
                        refine rl_v rfl rfl rfl (ov_eql rfl rfl rfl) ?_
                        refine rl_nil ?_
                        first | refine run_cond_dec rfl (fun e2 => ?_) (fun e2n => ?_) | refine run_cond rfl (fun e2 => ?_) (fun e2n => ?_)
                        · rw [if_pos e2] at hpe hqe hae
                          have bp := bnd (Y.payer n (d + 1))
                          have bq := bnd (Y.payee n (d + 1))
                          rw [hpe, hqe, hae] at hpy hws
                          rw [hpe] at bp
                          rw [hqe] at bq
                          refine run_seq ?_
                          refine run_tail 14 mixed (by kernel_rfl) ?_
                          have hO82 := hO79.drew
                          generalize World.drew w78 = w81 at hO82 ⊢
                          refine rt_v rfl rfl rfl (ov_move rfl rfl) ?_
                          refine rt_v rfl rfl rfl (ov_fieldS rfl Try.underlying41 rfl (fo := 0) rfl (by kernel_rfl) rfl) ?_
                          refine rt_v rfl rfl rfl (ov_load rfl Try.underlying3 rfl rfl (by first | exact hO82.cellL 0 rfl (off := 0) rfl)) ?_
                          refine rt_v rfl rfl rfl (ov_sub rfl rfl rfl (by omega)) ?_
                          refine rt_v rfl rfl rfl (ov_move rfl rfl) ?_
                          refine rt_v rfl rfl rfl (ov_fieldS rfl Try.underlying41 rfl (fo := 0) rfl (by kernel_rfl) rfl) ?_
                          refine rt_v rfl rfl rfl (ov_load rfl Try.underlying3 rfl rfl (by first | exact hO82.cellL 0 rfl (off := 0) rfl)) ?_
                          refine rt_v rfl rfl rfl (ov_sub rfl rfl rfl (by omega)) ?_
                          refine rt_v rfl rfl rfl (ov_index1 rfl Try.underlying22 (by kernel_rfl) rfl rfl ⟨by omega, by omega⟩ (by first | rfl | exact (hda (by omega)))) ?_
                          refine rt_v rfl rfl rfl (ov_load rfl Try.underlying2 rfl rfl (by first | exact (hO82.cellI 1 rfl _ (by omega) (by omega)).trans (congrArg some (hGw _ (by omega) (by omega))))) ?_
                          refine rt_v rfl rfl rfl (ov_fieldS rfl Try.underlying41 rfl (fo := 2) rfl (by kernel_rfl) rfl) ?_
                          refine rt_v rfl rfl rfl (ov_load rfl Try.underlying2 rfl rfl (by first | exact hO82.cellL 0 rfl (off := 2) rfl)) ?_
                          refine rt_v rfl rfl rfl (ov_sub rfl rfl rfl (by omega)) ?_
                          refine rt_v rfl rfl rfl (ov_index1 rfl Try.underlying22 (by kernel_rfl) rfl rfl ⟨by omega, by omega⟩ (by first | rfl | exact (hda (by omega)))) ?_
                          refine rt_nil ?_
                          refine rl_ow rfl (ow_store rfl rfl (by kernel_rfl) hO82 1 rfl rfl ⟨by omega, by omega⟩ rfl rfl) ?_
                          rintro _ w83 ⟨rfl, hO84, hs85⟩
                          refine rl_nil ?_
                          refine run_tail 14 mixed (by kernel_rfl) ?_
                          have hO87 := hO84.drew
                          generalize World.drew w83 = w86 at hO87 ⊢
                          refine rt_v rfl rfl rfl (ov_move rfl rfl) ?_
                          refine rt_v rfl rfl rfl (ov_fieldS rfl Try.underlying41 rfl (fo := 1) rfl (by kernel_rfl) rfl) ?_
                          refine rt_v rfl rfl rfl (ov_load rfl Try.underlying3 rfl rfl (by first | exact hO87.cellL 0 rfl (off := 1) rfl)) ?_
                          refine rt_v rfl rfl rfl (ov_sub rfl rfl rfl (by omega)) ?_
                          refine rt_v rfl rfl rfl (ov_move rfl rfl) ?_
                          refine rt_v rfl rfl rfl (ov_fieldS rfl Try.underlying41 rfl (fo := 1) rfl (by kernel_rfl) rfl) ?_
                          refine rt_v rfl rfl rfl (ov_load rfl Try.underlying3 rfl rfl (by first | exact hO87.cellL 0 rfl (off := 1) rfl)) ?_
                          refine rt_v rfl rfl rfl (ov_sub rfl rfl rfl (by omega)) ?_
                          refine rt_v rfl rfl rfl (ov_index1 rfl Try.underlying22 (by kernel_rfl) rfl rfl ⟨by omega, by omega⟩ (by first | rfl | exact (hda (by omega)))) ?_
                          refine rt_v rfl rfl rfl (ov_load rfl Try.underlying2 rfl rfl (by first | exact (hO87.cellI 1 rfl _ (by omega) (by omega)).trans (congrArg some ((upd_ne _ _ (by omega)).trans (hGw _ (by omega) (by omega)))))) ?_
                          refine rt_v rfl rfl rfl (ov_fieldS rfl Try.underlying41 rfl (fo := 2) rfl (by kernel_rfl) rfl) ?_
                          refine rt_v rfl rfl rfl (ov_load rfl Try.underlying2 rfl rfl (by first | exact hO87.cellL 0 rfl (off := 2) rfl)) ?_
                          refine rt_v rfl rfl rfl (ov_add rfl rfl rfl (by omega)) ?_
                          refine rt_v rfl rfl rfl (ov_index1 rfl Try.underlying22 (by kernel_rfl) rfl rfl ⟨by omega, by omega⟩ (by first | rfl | exact (hda (by omega)))) ?_
                          refine rt_nil ?_
                          refine rl_ow rfl (ow_store rfl rfl (by kernel_rfl) hO87 1 rfl rfl ⟨by omega, by omega⟩ rfl rfl) ?_
                          rintro _ w88 ⟨rfl, hO89, hs90⟩
                          refine rl_nil ?_
                          refine run_inBlock ?_
                          refine run_region ?_
                          refine rl_v rfl rfl rfl (ov_move rfl rfl) ?_
                          refine rl_v rfl rfl rfl (ov_add rfl rfl rfl (by omega)) ?_
                          refine rl_v rfl rfl rfl (ov_assign rfl rfl) ?_
                          refine rl_nil ?_
                          refine Run.use (ih47 (d + 1) (Q) (upd (upd Gw ((Y.deals.getD d.toNat Dl.z).b - 1) (iv (((Y.fst n).getD ((Y.deals.getD d.toNat Dl.z).b - 1).toNat 0 + sm (fun j => dlt Y n (Y.lg n).recs (j + 1) ((Y.deals.getD d.toNat Dl.z).b - 1)) d) - (Y.deals.getD d.toNat Dl.z).m))) ((Y.deals.getD d.toNat Dl.z).s - 1) (iv (((Y.fst n).getD ((Y.deals.getD d.toNat Dl.z).s - 1).toNat 0 + sm (fun j => dlt Y n (Y.lg n).recs (j + 1) ((Y.deals.getD d.toNat Dl.z).s - 1)) d) + (Y.deals.getD d.toNat Dl.z).m))) _ ?_ ?_) (And.intro (by first | with_reducible rfl | exact slot_int rfl (by first | omega) | rfl) (And.intro rfl (And.intro rfl (And.intro rfl (And.intro rfl (And.intro rfl (And.intro rfl (And.intro rfl (And.intro rfl (And.intro rfl (And.intro rfl trivial)))))))))))
                          · first | omega | (dsimp only; omega)
                          · exact ⟨by omega, by omega, hQ, by omega, hws, WAt.unflip hO89.tail hKe hPle⟩
                        · rw [if_neg e2n] at hpe hqe hae
                          have bp := bnd (Y.payer n (d + 1))
                          have bq := bnd (Y.payee n (d + 1))
                          rw [hpe, hqe, hae] at hpy hws
                          rw [hpe] at bp
                          rw [hqe] at bq
                          refine run_seq ?_
                          refine run_tail 14 mixed (by kernel_rfl) ?_
                          have hO92 := hO79.drew
                          generalize World.drew w78 = w91 at hO92 ⊢
                          refine rt_v rfl rfl rfl (ov_move rfl rfl) ?_
                          refine rt_v rfl rfl rfl (ov_fieldS rfl Try.underlying41 rfl (fo := 1) rfl (by kernel_rfl) rfl) ?_
                          refine rt_v rfl rfl rfl (ov_load rfl Try.underlying3 rfl rfl (by first | exact hO92.cellL 0 rfl (off := 1) rfl)) ?_
                          refine rt_v rfl rfl rfl (ov_sub rfl rfl rfl (by omega)) ?_
                          refine rt_v rfl rfl rfl (ov_move rfl rfl) ?_
                          refine rt_v rfl rfl rfl (ov_fieldS rfl Try.underlying41 rfl (fo := 1) rfl (by kernel_rfl) rfl) ?_
                          refine rt_v rfl rfl rfl (ov_load rfl Try.underlying3 rfl rfl (by first | exact hO92.cellL 0 rfl (off := 1) rfl)) ?_
                          refine rt_v rfl rfl rfl (ov_sub rfl rfl rfl (by omega)) ?_
                          refine rt_v rfl rfl rfl (ov_index1 rfl Try.underlying22 (by kernel_rfl) rfl rfl ⟨by omega, by omega⟩ (by first | rfl | exact (hda (by omega)))) ?_
                          refine rt_v rfl rfl rfl (ov_load rfl Try.underlying2 rfl rfl (by first | exact (hO92.cellI 1 rfl _ (by omega) (by omega)).trans (congrArg some (hGw _ (by omega) (by omega))))) ?_
                          refine rt_v rfl rfl rfl (ov_fieldS rfl Try.underlying41 rfl (fo := 3) rfl (by kernel_rfl) rfl) ?_
                          refine rt_v rfl rfl rfl (ov_load rfl Try.underlying2 rfl rfl (by first | exact hO92.cellL 0 rfl (off := 3) rfl)) ?_
                          refine rt_v rfl rfl rfl (ov_sub rfl rfl rfl (by omega)) ?_
                          refine rt_v rfl rfl rfl (ov_index1 rfl Try.underlying22 (by kernel_rfl) rfl rfl ⟨by omega, by omega⟩ (by first | rfl | exact (hda (by omega)))) ?_
                          refine rt_nil ?_
                          refine rl_ow rfl (ow_store rfl rfl (by kernel_rfl) hO92 1 rfl rfl ⟨by omega, by omega⟩ rfl rfl) ?_
                          rintro _ w93 ⟨rfl, hO94, hs95⟩
                          refine rl_nil ?_
                          refine run_tail 14 mixed (by kernel_rfl) ?_
                          have hO97 := hO94.drew
                          generalize World.drew w93 = w96 at hO97 ⊢
                          refine rt_v rfl rfl rfl (ov_move rfl rfl) ?_
                          refine rt_v rfl rfl rfl (ov_fieldS rfl Try.underlying41 rfl (fo := 0) rfl (by kernel_rfl) rfl) ?_
                          refine rt_v rfl rfl rfl (ov_load rfl Try.underlying3 rfl rfl (by first | exact hO97.cellL 0 rfl (off := 0) rfl)) ?_
                          refine rt_v rfl rfl rfl (ov_sub rfl rfl rfl (by omega)) ?_
                          refine rt_v rfl rfl rfl (ov_move rfl rfl) ?_
                          refine rt_v rfl rfl rfl (ov_fieldS rfl Try.underlying41 rfl (fo := 0) rfl (by kernel_rfl) rfl) ?_
                          refine rt_v rfl rfl rfl (ov_load rfl Try.underlying3 rfl rfl (by first | exact hO97.cellL 0 rfl (off := 0) rfl)) ?_
                          refine rt_v rfl rfl rfl (ov_sub rfl rfl rfl (by omega)) ?_
                          refine rt_v rfl rfl rfl (ov_index1 rfl Try.underlying22 (by kernel_rfl) rfl rfl ⟨by omega, by omega⟩ (by first | rfl | exact (hda (by omega)))) ?_
                          refine rt_v rfl rfl rfl (ov_load rfl Try.underlying2 rfl rfl (by first | exact (hO97.cellI 1 rfl _ (by omega) (by omega)).trans (congrArg some ((upd_ne _ _ (by omega)).trans (hGw _ (by omega) (by omega)))))) ?_
                          refine rt_v rfl rfl rfl (ov_fieldS rfl Try.underlying41 rfl (fo := 3) rfl (by kernel_rfl) rfl) ?_
                          refine rt_v rfl rfl rfl (ov_load rfl Try.underlying2 rfl rfl (by first | exact hO97.cellL 0 rfl (off := 3) rfl)) ?_
                          refine rt_v rfl rfl rfl (ov_add rfl rfl rfl (by omega)) ?_
                          refine rt_v rfl rfl rfl (ov_index1 rfl Try.underlying22 (by kernel_rfl) rfl rfl ⟨by omega, by omega⟩ (by first | rfl | exact (hda (by omega)))) ?_
                          refine rt_nil ?_
                          refine rl_ow rfl (ow_store rfl rfl (by kernel_rfl) hO97 1 rfl rfl ⟨by omega, by omega⟩ rfl rfl) ?_
                          rintro _ w98 ⟨rfl, hO99, hs100⟩
                          refine rl_nil ?_
                          refine run_inBlock ?_
                          refine run_region ?_
                          refine rl_v rfl rfl rfl (ov_move rfl rfl) ?_
                          refine rl_v rfl rfl rfl (ov_add rfl rfl rfl (by omega)) ?_
                          refine rl_v rfl rfl rfl (ov_assign rfl rfl) ?_
                          refine rl_nil ?_
                          refine Run.use (ih47 (d + 1) (Q) (upd (upd Gw ((Y.deals.getD d.toNat Dl.z).s - 1) (iv (((Y.fst n).getD ((Y.deals.getD d.toNat Dl.z).s - 1).toNat 0 + sm (fun j => dlt Y n (Y.lg n).recs (j + 1) ((Y.deals.getD d.toNat Dl.z).s - 1)) d) - (Y.deals.getD d.toNat Dl.z).g))) ((Y.deals.getD d.toNat Dl.z).b - 1) (iv (((Y.fst n).getD ((Y.deals.getD d.toNat Dl.z).b - 1).toNat 0 + sm (fun j => dlt Y n (Y.lg n).recs (j + 1) ((Y.deals.getD d.toNat Dl.z).b - 1)) d) + (Y.deals.getD d.toNat Dl.z).g))) _ ?_ ?_) (And.intro (by first | with_reducible rfl | exact slot_int rfl (by first | omega) | rfl) (And.intro rfl (And.intro rfl (And.intro rfl (And.intro rfl (And.intro rfl (And.intro rfl (And.intro rfl (And.intro rfl (And.intro rfl (And.intro rfl trivial)))))))))))
                          · first | omega | (dsimp only; omega)
                          · exact ⟨by omega, by omega, hQ, by omega, hws, WAt.unflip hO99.tail hKe hPle⟩
                · refine rl_gskip rfl rfl rfl rfl rfl rfl ?_
                  refine rl_gskip rfl rfl rfl rfl rfl rfl ?_
                  refine rl_v rfl rfl rfl (ov_pick_f rfl rfl rfl) ?_
                  refine rl_nil ?_
                  refine run_cond_f rfl ?_
                  refine run_skip ?_
                  refine run_seq ?_
                  -- region live ['1:l', '5:own', '6:w', '8:stays', '9:i', '10:deals', '11:n', '12:all', '13:safe', '14:want', '15:d', '16:is'], written []
                  refine Run.keep [1, 5, 6, 8, 9, 10, 11, 12, 13, 14, 15, 16] (F' := [(1, _), (5, _), (6, _), (8, _), (9, _), (10, _), (11, _), (12, _), (13, _), (14, _), (15, _), (16, _)]) rfl ?_
                  refine run_join1 (fun (Q : SS) => []) [1, 5, 6, 8, 9, 10, 11, 12, 13, 14, 15, 16] (fun (Q : SS) (w101 : World) => SOk Y Q ∧ d < Q.L n ∧ WAt w.heap.size w w101 A Y [] (some (vch bw 2 zw Gw) :: cD :: some (vch b8 48 3 Q.G) :: Q.Cb n :: Q.Cb (oth n) :: RR)) (fun hk102 => ?_) ?_
                  · refine run_tail 19 mixed (by kernel_rfl) ?_
                    have hO104 := hOd.drew
                    generalize World.drew w51 = w103 at hO104 ⊢
                    refine rt_v rfl rfl rfl (ov_move rfl rfl) ?_
                    refine rt_v rfl rfl rfl (ov_indexA1 rfl Try.underlying48 (by kernel_rfl) rfl rfl ⟨by omega, by omega⟩) ?_
                    refine rt_v rfl rfl rfl (ov_load rfl Try.underlying47 rfl rfl (by first | exact (hO104.cellI 2 rfl n (by omega) (by omega)).trans (congrArg some hGq))) ?_
                    refine rt_v rfl rfl rfl (ov_move rfl rfl) ?_
                    refine rt_v rfl rfl rfl (ov_move rfl rfl) ?_
                    refine rt_v rfl rfl rfl (ov_indexA1 rfl Try.underlying48 (by kernel_rfl) rfl rfl ⟨by omega, by omega⟩) ?_
                    refine rt_v rfl rfl rfl (ov_load rfl Try.underlying47 rfl rfl (by first | exact (hO104.cellI 2 rfl n (by omega) (by omega)).trans (congrArg some hGq))) ?_
                    refine rt_v rfl rfl rfl (ov_move rfl rfl) ?_
                    refine rt_v rfl rfl rfl (ov_index1 rfl Try.underlying47 (by kernel_rfl) rfl rfl ⟨by omega, by omega⟩ (by first | rfl | exact (hla (by omega)))) ?_
                    refine rt_v rfl rfl rfl (ov_load rfl Try.underlying4 rfl rfl (by first | exact (hO104.cellI 3 rfl _ (by omega) (by omega)).trans (congrArg some (hGr d (by omega) (by omega))))) ?_
                    refine rt_v rfl rfl rfl (ov_move rfl rfl) ?_
                    first | refine rt_split_dec 120 rfl (fun a1 => ?_) (fun a1 => ?_) | refine rt_split 120 rfl (fun a1 => ?_) (fun a1 => ?_)
                    · refine rt_gskip rfl rfl rfl rfl rfl rfl ?_
                      refine rt_gskip rfl rfl rfl rfl rfl rfl ?_
                      refine rt_gundef rfl rfl rfl rfl rfl ?_
                      refine rt_gundef rfl rfl rfl rfl rfl ?_
                      refine rt_gundef rfl rfl rfl rfl rfl ?_
                      refine rt_gskip rfl rfl rfl rfl rfl rfl ?_
                      refine rt_v rfl rfl rfl (ov_pick_t rfl rfl rfl) ?_
                      refine rt_v rfl rfl rfl (ov_index1 rfl Try.underlying47 (by kernel_rfl) rfl rfl ⟨by omega, by omega⟩ (by first | rfl | exact (hla (by omega)))) ?_
                      refine rt_nil ?_
                      refine rl_ow rfl (ow_store rfl rfl (by kernel_rfl) hO104 3 rfl rfl ⟨by omega, by omega⟩ rfl rfl) ?_
                      rintro _ w106 ⟨rfl, hO107, hs108⟩
                      refine rl_nil ?_
                      refine Run.use (hk102 (Q.put2 n (some (vch rb 4 zq (upd Gr d (.bool (true))))) (upd (Q.F n) d (true))) _ ?_) (And.intro rfl (And.intro rfl (And.intro rfl (And.intro rfl (And.intro rfl (And.intro rfl (And.intro rfl (And.intro rfl (And.intro rfl (And.intro rfl (And.intro rfl (And.intro rfl trivial))))))))))))
                      exact ⟨hQ.mark hn hGq hrc hrm hGr (fun _ => hQ.sf n hn d hd0 hdL a1), hdL, by rw [put2_C, put2_C' ho]; exact WAt.unflip hO107 hKd hPld⟩
                    · refine rt_gv rfl rfl rfl rfl rfl (ov_move rfl rfl) ?_
                      refine rt_gv rfl rfl rfl rfl rfl (ov_move rfl rfl) ?_
                      first | refine rt_split_dec 122 rfl (fun a2 => ?_) (fun a2 => ?_) | refine rt_split 122 rfl (fun a2 => ?_) (fun a2 => ?_)
                      · refine rt_gv rfl rfl rfl rfl rfl (ov_move rfl rfl) ?_
                        refine rt_gv rfl rfl rfl rfl rfl (ov_move rfl rfl) ?_
                        refine rt_gv rfl rfl rfl rfl rfl (ov_eql rfl rfl rfl) ?_
                        refine rt_gv rfl rfl rfl rfl rfl (ov_pick_t rfl rfl rfl) ?_
                        refine rt_v rfl rfl rfl (ov_pick_f rfl rfl rfl) ?_
                        refine rt_v rfl rfl rfl (ov_index1 rfl Try.underlying47 (by kernel_rfl) rfl rfl ⟨by omega, by omega⟩ (by first | rfl | exact (hla (by omega)))) ?_
                        refine rt_nil ?_
                        refine rl_ow rfl (ow_store rfl rfl (by kernel_rfl) hO104 3 rfl rfl ⟨by omega, by omega⟩ rfl rfl) ?_
                        rintro _ w110 ⟨rfl, hO111, hs112⟩
                        refine rl_nil ?_
                        refine Run.use (hk102 (Q.put2 n (some (vch rb 4 zq (upd Gr d (.bool (decide (((Y.lg n).recs.length : Int) = (Y.lg n).safe)))))) (upd (Q.F n) d (decide (((Y.lg n).recs.length : Int) = (Y.lg n).safe)))) _ ?_) (And.intro rfl (And.intro rfl (And.intro rfl (And.intro rfl (And.intro rfl (And.intro rfl (And.intro rfl (And.intro rfl (And.intro rfl (And.intro rfl (And.intro rfl (And.intro rfl trivial))))))))))))
                        exact ⟨hQ.mark hn hGq hrc hrm hGr (fun hv => Sf.of_mem (by have := of_decide_eq_true hv; omega) (hst2 a2)), hdL, by rw [put2_C, put2_C' ho]; exact WAt.unflip hO111 hKd hPld⟩
                      · refine rt_gskip rfl rfl rfl rfl rfl rfl ?_
                        refine rt_gskip rfl rfl rfl rfl rfl rfl ?_
                        refine rt_gskip rfl rfl rfl rfl rfl rfl ?_
                        refine rt_gv rfl rfl rfl rfl rfl (ov_pick_f rfl rfl rfl) ?_
                        refine rt_v rfl rfl rfl (ov_pick_f rfl rfl rfl) ?_
                        refine rt_v rfl rfl rfl (ov_index1 rfl Try.underlying47 (by kernel_rfl) rfl rfl ⟨by omega, by omega⟩ (by first | rfl | exact (hla (by omega)))) ?_
                        refine rt_nil ?_
                        refine rl_ow rfl (ow_store rfl rfl (by kernel_rfl) hO104 3 rfl rfl ⟨by omega, by omega⟩ rfl rfl) ?_
                        rintro _ w113 ⟨rfl, hO114, hs115⟩
                        refine rl_nil ?_
                        refine Run.use (hk102 (Q.put2 n (some (vch rb 4 zq (upd Gr d (.bool (false))))) (upd (Q.F n) d (false))) _ ?_) (And.intro rfl (And.intro rfl (And.intro rfl (And.intro rfl (And.intro rfl (And.intro rfl (And.intro rfl (And.intro rfl (And.intro rfl (And.intro rfl (And.intro rfl (And.intro rfl trivial))))))))))))
                        exact ⟨hQ.mark hn hGq hrc hrm hGr (fun h => Bool.noConfusion h), hdL, by rw [put2_C, put2_C' ho]; exact WAt.unflip hO114 hKd hPld⟩
                  · intro Q w101 hJw101
                    obtain ⟨hQ, hdL, hWb⟩ := hJw101
                    show Run _ _ _ _ [(1, _), (5, _), (6, _), (8, _), (9, _), (10, _), (11, _), (12, _), (13, _), (14, _), (15, _), (16, _)] _ _
                    refine run_seq ?_
                    refine run_seq ?_
                    refine run_region ?_
                    refine rl_v rfl rfl rfl (ov_move rfl rfl) ?_
                    refine rl_v rfl rfl rfl (ov_not rfl rfl) ?_
                    refine rl_nil ?_
                    first | refine run_cond_dec rfl (fun ni => ?_) (fun nin => ?_) | refine run_cond rfl (fun ni => ?_) (fun nin => ?_)
                    · have hni : ¬ (Y.lg n).state (d + 1) = 2 := by simpa using ni
                      refine run_exit rfl ?_
                      refine run_region ?_
                      refine rl_v rfl rfl rfl (ov_move rfl rfl) ?_
                      refine rl_v rfl rfl rfl (ov_add rfl rfl rfl (by omega)) ?_
                      refine rl_v rfl rfl rfl (ov_assign rfl rfl) ?_
                      refine rl_nil ?_
                      refine Run.use (ih47 (d + 1) (Q) (Gw) _ ?_ ?_) (And.intro (by first | with_reducible rfl | exact slot_int rfl (by first | omega) | rfl) (And.intro rfl (And.intro rfl (And.intro rfl (And.intro rfl (And.intro rfl (And.intro rfl (And.intro rfl (And.intro rfl (And.intro rfl (And.intro rfl trivial)))))))))))
                      · first | omega | (dsimp only; omega)
                      · exact ⟨by omega, by omega, hQ, by omega, wantSame hd0 (fun h => hni (hst h)) hGw, hWb⟩
                    · have his : (2, d + 1) ∈ (Y.lg n).recs := hst2 (by simpa using nin)
                      obtain ⟨Ke, Ne, hOe, hKe, hPle⟩ := hWb.flip
                      obtain ⟨db, dof, hda, hdrow⟩ := (Src.of_row hRd (k := 1) rfl _ _ _ hOe).open (by decide)
                      refine run_skip ?_
                      refine run_seq ?_
                      refine run_region ?_
                      refine rl_v rfl rfl rfl (ov_move rfl rfl) ?_
                      refine rl_v rfl rfl rfl (ov_move rfl rfl) ?_
                      refine rl_v rfl rfl rfl (ov_index rfl Try.underlying52 (by kernel_rfl) (s := 4) rfl rfl ⟨by omega, by omega⟩ (by first | rfl | exact (hda (by omega)))) ?_
                      refine rl_v rfl rfl rfl (ov_loadE rfl Try.underlying41 rfl (by kernel_rfl) rfl ⟨by omega, by omega⟩ rfl (hdrow _ (Below.refl _ _))) ?_
                      refine rl_ow rfl (ow_alloc _ rfl rfl rfl zero_41 rfl hOe) ?_
                      rintro _ w116 ⟨b18, rfl, hO117, hs118⟩
                      refine rl_ow rfl (ow_storeW rfl rfl (by kernel_rfl) hO117 0 rfl rfl (by rfl) rfl (by rfl)) ?_
                      rintro _ w119 ⟨rfl, hO120, hs121⟩
                      have hxo := hY.good.dl (d + 1) hdr.1 hdr.2
                      have hxe : Y.deal (d + 1) = Y.deals.getD d.toNat Dl.z := by unfold MW.deal; rw [show (d + 1 - 1).toNat = d.toNat by omega]
                      have hpy := hY.good.pays (n := n) hdr
                      have bnd := want_bnd hY.good hn hd0 hd1
                      have hws := wantStep (M := (Y.fst n).length) hd0 his hpy.2.2.1 (by omega) (by omega) hGw
                      have hpe : Y.payer n (d + 1) = if n = 1 then (Y.deals.getD d.toNat Dl.z).b - 1 else (Y.deals.getD d.toNat Dl.z).s - 1 := by unfold MW.payer; rw [hxe]
                      have hqe : Y.payee n (d + 1) = if n = 1 then (Y.deals.getD d.toNat Dl.z).s - 1 else (Y.deals.getD d.toNat Dl.z).b - 1 := by unfold MW.payee; rw [hxe]
                      have hae : Y.amount n (d + 1) = if n = 1 then (Y.deals.getD d.toNat Dl.z).m else (Y.deals.getD d.toNat Dl.z).g := by unfold MW.amount; rw [hxe]
                      refine rl_nil ?_
                      refine run_seq ?_
                      refine run_region ?_
                      refine rl_v rfl rfl rfl (ov_move rfl rfl) ?_
                      refine rl_v rfl rfl rfl (ov_eql rfl rfl rfl) ?_
                      refine rl_nil ?_
                      first | refine run_cond_dec rfl (fun e2 => ?_) (fun e2n => ?_) | refine run_cond rfl (fun e2 => ?_) (fun e2n => ?_)
                      · rw [if_pos e2] at hpe hqe hae
                        have bp := bnd (Y.payer n (d + 1))
                        have bq := bnd (Y.payee n (d + 1))
                        rw [hpe, hqe, hae] at hpy hws
                        rw [hpe] at bp
                        rw [hqe] at bq
                        refine run_seq ?_
                        refine run_tail 14 mixed (by kernel_rfl) ?_
                        have hO123 := hO120.drew
                        generalize World.drew w119 = w122 at hO123 ⊢
                        refine rt_v rfl rfl rfl (ov_move rfl rfl) ?_
                        refine rt_v rfl rfl rfl (ov_fieldS rfl Try.underlying41 rfl (fo := 0) rfl (by kernel_rfl) rfl) ?_
                        refine rt_v rfl rfl rfl (ov_load rfl Try.underlying3 rfl rfl (by first | exact hO123.cellL 0 rfl (off := 0) rfl)) ?_
                        refine rt_v rfl rfl rfl (ov_sub rfl rfl rfl (by omega)) ?_
                        refine rt_v rfl rfl rfl (ov_move rfl rfl) ?_
                        refine rt_v rfl rfl rfl (ov_fieldS rfl Try.underlying41 rfl (fo := 0) rfl (by kernel_rfl) rfl) ?_
                        refine rt_v rfl rfl rfl (ov_load rfl Try.underlying3 rfl rfl (by first | exact hO123.cellL 0 rfl (off := 0) rfl)) ?_
                        refine rt_v rfl rfl rfl (ov_sub rfl rfl rfl (by omega)) ?_
                        refine rt_v rfl rfl rfl (ov_index1 rfl Try.underlying22 (by kernel_rfl) rfl rfl ⟨by omega, by omega⟩ (by first | rfl | exact (hda (by omega)))) ?_
                        refine rt_v rfl rfl rfl (ov_load rfl Try.underlying2 rfl rfl (by first | exact (hO123.cellI 1 rfl _ (by omega) (by omega)).trans (congrArg some (hGw _ (by omega) (by omega))))) ?_
                        refine rt_v rfl rfl rfl (ov_fieldS rfl Try.underlying41 rfl (fo := 2) rfl (by kernel_rfl) rfl) ?_
                        refine rt_v rfl rfl rfl (ov_load rfl Try.underlying2 rfl rfl (by first | exact hO123.cellL 0 rfl (off := 2) rfl)) ?_
                        refine rt_v rfl rfl rfl (ov_sub rfl rfl rfl (by omega)) ?_
                        refine rt_v rfl rfl rfl (ov_index1 rfl Try.underlying22 (by kernel_rfl) rfl rfl ⟨by omega, by omega⟩ (by first | rfl | exact (hda (by omega)))) ?_
                        refine rt_nil ?_
                        refine rl_ow rfl (ow_store rfl rfl (by kernel_rfl) hO123 1 rfl rfl ⟨by omega, by omega⟩ rfl rfl) ?_
                        rintro _ w124 ⟨rfl, hO125, hs126⟩
                        refine rl_nil ?_
                        refine run_tail 14 mixed (by kernel_rfl) ?_
                        have hO128 := hO125.drew
                        generalize World.drew w124 = w127 at hO128 ⊢
                        refine rt_v rfl rfl rfl (ov_move rfl rfl) ?_
                        refine rt_v rfl rfl rfl (ov_fieldS rfl Try.underlying41 rfl (fo := 1) rfl (by kernel_rfl) rfl) ?_
                        refine rt_v rfl rfl rfl (ov_load rfl Try.underlying3 rfl rfl (by first | exact hO128.cellL 0 rfl (off := 1) rfl)) ?_
                        refine rt_v rfl rfl rfl (ov_sub rfl rfl rfl (by omega)) ?_
                        refine rt_v rfl rfl rfl (ov_move rfl rfl) ?_
                        refine rt_v rfl rfl rfl (ov_fieldS rfl Try.underlying41 rfl (fo := 1) rfl (by kernel_rfl) rfl) ?_
                        refine rt_v rfl rfl rfl (ov_load rfl Try.underlying3 rfl rfl (by first | exact hO128.cellL 0 rfl (off := 1) rfl)) ?_
                        refine rt_v rfl rfl rfl (ov_sub rfl rfl rfl (by omega)) ?_
                        refine rt_v rfl rfl rfl (ov_index1 rfl Try.underlying22 (by kernel_rfl) rfl rfl ⟨by omega, by omega⟩ (by first | rfl | exact (hda (by omega)))) ?_
                        refine rt_v rfl rfl rfl (ov_load rfl Try.underlying2 rfl rfl (by first | exact (hO128.cellI 1 rfl _ (by omega) (by omega)).trans (congrArg some ((upd_ne _ _ (by omega)).trans (hGw _ (by omega) (by omega)))))) ?_
                        refine rt_v rfl rfl rfl (ov_fieldS rfl Try.underlying41 rfl (fo := 2) rfl (by kernel_rfl) rfl) ?_
                        refine rt_v rfl rfl rfl (ov_load rfl Try.underlying2 rfl rfl (by first | exact hO128.cellL 0 rfl (off := 2) rfl)) ?_
                        refine rt_v rfl rfl rfl (ov_add rfl rfl rfl (by omega)) ?_
                        refine rt_v rfl rfl rfl (ov_index1 rfl Try.underlying22 (by kernel_rfl) rfl rfl ⟨by omega, by omega⟩ (by first | rfl | exact (hda (by omega)))) ?_
                        refine rt_nil ?_
                        refine rl_ow rfl (ow_store rfl rfl (by kernel_rfl) hO128 1 rfl rfl ⟨by omega, by omega⟩ rfl rfl) ?_
                        rintro _ w129 ⟨rfl, hO130, hs131⟩
                        refine rl_nil ?_
                        refine run_inBlock ?_
                        refine run_region ?_
                        refine rl_v rfl rfl rfl (ov_move rfl rfl) ?_
                        refine rl_v rfl rfl rfl (ov_add rfl rfl rfl (by omega)) ?_
                        refine rl_v rfl rfl rfl (ov_assign rfl rfl) ?_
                        refine rl_nil ?_
                        refine Run.use (ih47 (d + 1) (Q) (upd (upd Gw ((Y.deals.getD d.toNat Dl.z).b - 1) (iv (((Y.fst n).getD ((Y.deals.getD d.toNat Dl.z).b - 1).toNat 0 + sm (fun j => dlt Y n (Y.lg n).recs (j + 1) ((Y.deals.getD d.toNat Dl.z).b - 1)) d) - (Y.deals.getD d.toNat Dl.z).m))) ((Y.deals.getD d.toNat Dl.z).s - 1) (iv (((Y.fst n).getD ((Y.deals.getD d.toNat Dl.z).s - 1).toNat 0 + sm (fun j => dlt Y n (Y.lg n).recs (j + 1) ((Y.deals.getD d.toNat Dl.z).s - 1)) d) + (Y.deals.getD d.toNat Dl.z).m))) _ ?_ ?_) (And.intro (by first | with_reducible rfl | exact slot_int rfl (by first | omega) | rfl) (And.intro rfl (And.intro rfl (And.intro rfl (And.intro rfl (And.intro rfl (And.intro rfl (And.intro rfl (And.intro rfl (And.intro rfl (And.intro rfl trivial)))))))))))
                        · first | omega | (dsimp only; omega)
                        · exact ⟨by omega, by omega, hQ, by omega, hws, WAt.unflip hO130.tail hKe hPle⟩
                      · rw [if_neg e2n] at hpe hqe hae
                        have bp := bnd (Y.payer n (d + 1))
                        have bq := bnd (Y.payee n (d + 1))
                        rw [hpe, hqe, hae] at hpy hws
                        rw [hpe] at bp
                        rw [hqe] at bq
                        refine run_seq ?_
                        refine run_tail 14 mixed (by kernel_rfl) ?_
                        have hO133 := hO120.drew
                        generalize World.drew w119 = w132 at hO133 ⊢
                        refine rt_v rfl rfl rfl (ov_move rfl rfl) ?_
                        refine rt_v rfl rfl rfl (ov_fieldS rfl Try.underlying41 rfl (fo := 1) rfl (by kernel_rfl) rfl) ?_
                        refine rt_v rfl rfl rfl (ov_load rfl Try.underlying3 rfl rfl (by first | exact hO133.cellL 0 rfl (off := 1) rfl)) ?_
                        refine rt_v rfl rfl rfl (ov_sub rfl rfl rfl (by omega)) ?_
                        refine rt_v rfl rfl rfl (ov_move rfl rfl) ?_
                        refine rt_v rfl rfl rfl (ov_fieldS rfl Try.underlying41 rfl (fo := 1) rfl (by kernel_rfl) rfl) ?_
                        refine rt_v rfl rfl rfl (ov_load rfl Try.underlying3 rfl rfl (by first | exact hO133.cellL 0 rfl (off := 1) rfl)) ?_
                        refine rt_v rfl rfl rfl (ov_sub rfl rfl rfl (by omega)) ?_
                        refine rt_v rfl rfl rfl (ov_index1 rfl Try.underlying22 (by kernel_rfl) rfl rfl ⟨by omega, by omega⟩ (by first | rfl | exact (hda (by omega)))) ?_
                        refine rt_v rfl rfl rfl (ov_load rfl Try.underlying2 rfl rfl (by first | exact (hO133.cellI 1 rfl _ (by omega) (by omega)).trans (congrArg some (hGw _ (by omega) (by omega))))) ?_
                        refine rt_v rfl rfl rfl (ov_fieldS rfl Try.underlying41 rfl (fo := 3) rfl (by kernel_rfl) rfl) ?_
                        refine rt_v rfl rfl rfl (ov_load rfl Try.underlying2 rfl rfl (by first | exact hO133.cellL 0 rfl (off := 3) rfl)) ?_
                        refine rt_v rfl rfl rfl (ov_sub rfl rfl rfl (by omega)) ?_
                        refine rt_v rfl rfl rfl (ov_index1 rfl Try.underlying22 (by kernel_rfl) rfl rfl ⟨by omega, by omega⟩ (by first | rfl | exact (hda (by omega)))) ?_
                        refine rt_nil ?_
                        refine rl_ow rfl (ow_store rfl rfl (by kernel_rfl) hO133 1 rfl rfl ⟨by omega, by omega⟩ rfl rfl) ?_
                        rintro _ w134 ⟨rfl, hO135, hs136⟩
                        refine rl_nil ?_
                        refine run_tail 14 mixed (by kernel_rfl) ?_
                        have hO138 := hO135.drew
                        generalize World.drew w134 = w137 at hO138 ⊢
                        refine rt_v rfl rfl rfl (ov_move rfl rfl) ?_
                        refine rt_v rfl rfl rfl (ov_fieldS rfl Try.underlying41 rfl (fo := 0) rfl (by kernel_rfl) rfl) ?_
                        refine rt_v rfl rfl rfl (ov_load rfl Try.underlying3 rfl rfl (by first | exact hO138.cellL 0 rfl (off := 0) rfl)) ?_
                        refine rt_v rfl rfl rfl (ov_sub rfl rfl rfl (by omega)) ?_
                        refine rt_v rfl rfl rfl (ov_move rfl rfl) ?_
                        refine rt_v rfl rfl rfl (ov_fieldS rfl Try.underlying41 rfl (fo := 0) rfl (by kernel_rfl) rfl) ?_
                        refine rt_v rfl rfl rfl (ov_load rfl Try.underlying3 rfl rfl (by first | exact hO138.cellL 0 rfl (off := 0) rfl)) ?_
                        refine rt_v rfl rfl rfl (ov_sub rfl rfl rfl (by omega)) ?_
                        refine rt_v rfl rfl rfl (ov_index1 rfl Try.underlying22 (by kernel_rfl) rfl rfl ⟨by omega, by omega⟩ (by first | rfl | exact (hda (by omega)))) ?_
                        refine rt_v rfl rfl rfl (ov_load rfl Try.underlying2 rfl rfl (by first | exact (hO138.cellI 1 rfl _ (by omega) (by omega)).trans (congrArg some ((upd_ne _ _ (by omega)).trans (hGw _ (by omega) (by omega)))))) ?_
                        refine rt_v rfl rfl rfl (ov_fieldS rfl Try.underlying41 rfl (fo := 3) rfl (by kernel_rfl) rfl) ?_
                        refine rt_v rfl rfl rfl (ov_load rfl Try.underlying2 rfl rfl (by first | exact hO138.cellL 0 rfl (off := 3) rfl)) ?_
                        refine rt_v rfl rfl rfl (ov_add rfl rfl rfl (by omega)) ?_
                        refine rt_v rfl rfl rfl (ov_index1 rfl Try.underlying22 (by kernel_rfl) rfl rfl ⟨by omega, by omega⟩ (by first | rfl | exact (hda (by omega)))) ?_
                        refine rt_nil ?_
                        refine rl_ow rfl (ow_store rfl rfl (by kernel_rfl) hO138 1 rfl rfl ⟨by omega, by omega⟩ rfl rfl) ?_
                        rintro _ w139 ⟨rfl, hO140, hs141⟩
                        refine rl_nil ?_
                        refine run_inBlock ?_
                        refine run_region ?_
                        refine rl_v rfl rfl rfl (ov_move rfl rfl) ?_
                        refine rl_v rfl rfl rfl (ov_add rfl rfl rfl (by omega)) ?_
                        refine rl_v rfl rfl rfl (ov_assign rfl rfl) ?_
                        refine rl_nil ?_
                        refine Run.use (ih47 (d + 1) (Q) (upd (upd Gw ((Y.deals.getD d.toNat Dl.z).s - 1) (iv (((Y.fst n).getD ((Y.deals.getD d.toNat Dl.z).s - 1).toNat 0 + sm (fun j => dlt Y n (Y.lg n).recs (j + 1) ((Y.deals.getD d.toNat Dl.z).s - 1)) d) - (Y.deals.getD d.toNat Dl.z).g))) ((Y.deals.getD d.toNat Dl.z).b - 1) (iv (((Y.fst n).getD ((Y.deals.getD d.toNat Dl.z).b - 1).toNat 0 + sm (fun j => dlt Y n (Y.lg n).recs (j + 1) ((Y.deals.getD d.toNat Dl.z).b - 1)) d) + (Y.deals.getD d.toNat Dl.z).g))) _ ?_ ?_) (And.intro (by first | with_reducible rfl | exact slot_int rfl (by first | omega) | rfl) (And.intro rfl (And.intro rfl (And.intro rfl (And.intro rfl (And.intro rfl (And.intro rfl (And.intro rfl (And.intro rfl (And.intro rfl (And.intro rfl trivial)))))))))))
                        · first | omega | (dsimp only; omega)
                        · exact ⟨by omega, by omega, hQ, by omega, hws, WAt.unflip hO140.tail hKe hPle⟩
            · obtain rfl : d = Y.deals.length := by omega
              refine run_exit rfl ?_
              refine run_seq ?_
              refine run_region ?_
              refine rl_v rfl rfl rfl (ov_move rfl rfl) ?_
              refine rl_v rfl rfl rfl (ov_move rfl rfl) ?_
              refine rl_call callable_24 rfl rfl rfl rfl rfl rfl (balances_any A Y n w.heap.size [] _ w w46 hn hY.good hWd) (fun e142 w143 hp144 => ?_)
              obtain ⟨vb, cb, rfl, hRb, hWx⟩ := hp144
              refine ⟨_, rfl, ?_⟩
              obtain ⟨sb, zb, rfl⟩ := hRb.val
              obtain ⟨Kf, Nf, hOf, hKf, hPlf⟩ := hWx.flip
              have hRwant : IRow (.slice (some ⟨bw, 0, none⟩) (Y.fst n).length zw) 2 (Y.fst n).length (fun i => iv ((Y.fst n).getD i.toNat 0 + sm (fun j => dlt Y n (Y.lg n).recs (j + 1) i) Y.deals.length)) (some (vch bw 2 zw Gw)) := IRow.ofV hwc hwm hGw
              refine rl_v rfl rfl rfl (ov_move rfl rfl) ?_
              refine rl_v rfl rfl rfl (ov_extract rfl rfl (by rfl)) ?_
              refine rl_v rfl rfl rfl (ov_extract rfl rfl (by rfl)) ?_
              refine rl_v rfl rfl rfl (ov_assign rfl rfl) ?_
              refine rl_v rfl rfl rfl (ov_assign rfl rfl) ?_
              refine rl_nil ?_
              refine run_seq ?_
              refine run_region ?_
              refine rl_v rfl rfl rfl (ov_move rfl rfl) ?_
              refine rl_v rfl rfl rfl (ov_neq rfl rfl rfl) ?_
              refine rl_v rfl rfl rfl (ov_move rfl rfl) ?_
              first | refine rl_split_dec 201 rfl (fun r1 => ?_) (fun r1 => ?_) | refine rl_split 201 rfl (fun r1 => ?_) (fun r1 => ?_)
              · refine rl_gskip rfl rfl rfl rfl rfl rfl ?_
                refine rl_gskip rfl rfl rfl rfl rfl rfl ?_
                refine rl_gskip rfl rfl rfl rfl rfl rfl ?_
                refine rl_gskip rfl rfl rfl rfl rfl rfl ?_
                refine rl_v rfl rfl rfl (ov_pick_t rfl rfl rfl) ?_
                refine rl_nil ?_
                -- cond live ['1:l', '5:own', '6:w', '8:stays', '9:i', '10:deals', '11:n', '206:'], written []
                exfalso; exact r1 rfl
              · refine rl_gv rfl rfl rfl rfl rfl (ov_move rfl rfl) ?_
                refine rl_gv rfl rfl rfl rfl rfl (ov_move rfl rfl) ?_
                refine rl_gcall callable_25 rfl rfl rfl rfl rfl rfl rfl rfl (longs_any sb (some ⟨bw, 0, none⟩) (Y.fst n).length (Y.fst n).length zb zw 0 0 w.heap.size (Y.bal n) (fun i => (Y.fst n).getD i.toNat 0 + sm (fun j => dlt Y n (Y.lg n).recs (j + 1) i) Y.deals.length) _ w w143 hOf (SrcI.of_row hRb (k := 0) rfl) (SrcI.of_row hRwant (k := 1) rfl) (by omega)) (fun e146 w147 hp148 => ?_)
                obtain ⟨b, rfl, hb, hOu⟩ := hp148
                refine ⟨_, rfl, ?_⟩
                obtain rfl : b = true := hb.2 ⟨rfl, fun i _ _ => (accs_form hY.good (hY.linv n hn) (srec hY.good hn) i).1⟩
                refine rl_gv rfl rfl rfl rfl rfl (ov_not rfl rfl) ?_
                refine rl_v rfl rfl rfl (ov_pick_f rfl rfl rfl) ?_
                refine rl_nil ?_
                first | refine run_cond_dec rfl (fun bad => ?_) (fun ok => ?_) | refine run_cond rfl (fun bad => ?_) (fun ok => ?_)
                · exfalso; exact Bool.noConfusion bad
                · have ec2 : cur (n + 1) = oth n ∧ oth (n + 1) = n := by unfold cur oth; rcases hn with rfl | rfl <;> decide
                  refine run_skip ?_
                  refine run_inBlock ?_
                  refine run_region ?_
                  refine rl_v rfl rfl rfl (ov_move rfl rfl) ?_
                  refine rl_v rfl rfl rfl (ov_add rfl rfl rfl (by omega)) ?_
                  refine rl_v rfl rfl rfl (ov_assign rfl rfl) ?_
                  refine rl_nil ?_
                  refine Run.use (ih34 (n + 1) (Q) _ ?_ ?_) (And.intro (by first | with_reducible rfl | exact slot_int rfl (by first | omega) | rfl) (And.intro rfl (And.intro rfl (And.intro rfl (And.intro rfl (And.intro rfl (And.intro rfl trivial)))))))
                  · first | omega | (dsimp only; omega)
                  · exact ⟨by omega, by omega, hQ, by rw [ec2.1, ec2.2]; exact (WAt.unflip hOu hKf hPlf).drop.drop.permR (List.Perm.cons _ (List.Perm.cons _ (List.Perm.swap _ _ _)))⟩
        · obtain rfl : n = 3 := by omega
          refine run_exit rfl ?_
          refine run_inBlock ?_
          refine run_region ?_
          refine rl_v rfl rfl rfl (ov_move rfl rfl) ?_
          refine rl_v rfl rfl rfl (ov_add rfl rfl rfl (by omega)) ?_
          refine rl_v rfl rfl rfl (ov_assign rfl rfl) ?_
          refine rl_nil ?_
          refine Run.use (ih24 (i + 1) (Y) (Q) _ ?_ ?_) (And.intro (by first | with_reducible rfl | exact slot_int rfl (by first | omega) | rfl) (And.intro rfl (And.intro rfl (And.intro rfl (And.intro rfl trivial)))))
          · first | omega | (dsimp only; omega)
          · exact ⟨by omega, by omega, by rw [show (i + 1).toNat = i.toNat + 1 by omega, Nat.mul_add]; exact hY, hQ, hWn.drop⟩
      · refine run_exit rfl ?_
        refine run_seq ?_
        refine run_region ?_
        refine rl_call callable_20 rfl rfl rfl rfl rfl rfl (awake_any w.heap.size _ w w23 hW.own) (fun e149 w150 hp151 => ?_)
        obtain ⟨rfl, hOe⟩ := hp151
        refine ⟨_, rfl, ?_⟩
        refine rl_v rfl rfl rfl (ov_assign rfl rfl) ?_
        refine rl_nil ?_
        refine run_ret Try.func4 (res1 Try.results4 rfl) ?_
        exact ⟨rfl, hOe.below⟩
end Go.Proofs.Yteagflekbbchhaa
