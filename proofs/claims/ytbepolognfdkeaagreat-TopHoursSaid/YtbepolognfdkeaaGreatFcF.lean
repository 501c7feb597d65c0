import Derived.Test.YtbepolognfdkeaaGreatFcE
set_option maxRecDepth 100000
namespace Go.Proofs.YtbepolognfdkeaaGreat
open Go.RowKit Go.Proofs Go.MapKept
theorem perm_in4 {α : Type} {x a b c d : α} {T : List α} : (x :: a :: b :: c :: d :: T).Perm (a :: b :: c :: d :: x :: T) := (List.perm_append_comm (l₁ := [x]) (l₂ := [a, b, c, d])).append_right T
theorem index5_at (ao : Option Addr) (n c r : Nat) (X : Int → Int) (v : Int) (w : World) (hn : n ≤ 1000000) (hr : rk X n v = r) (hlt : r < n) (h : IAt w.heap.size w ao n (fun i => iv (X i))) :
  Calls Tryz.prog 82 #[.slice ao n c, iv v] w fun e w' => e = .returned (iv r) ∧ Below w.heap.size w w' :=
 (index5_any ao n c X v w hn h).mono fun _ _ ⟨h1, h2⟩ => ⟨by rw [h1, hr, if_pos (by omega)], h2⟩
theorem Own.subAt {B : Nat} {w0 w : World} {H : List (Option Blk)} (hO : Own B w0 w H) (k : Nat) {b cap : Nat} {T : TypeId} {G : Int → Value} (hk : H[k]? = some (some (vch b T cap G))) (off m : Nat) (y : Int → Int) (hm : off + m ≤ cap) (hG : ∀ j : Int, 0 ≤ j → j < m → G (off + j) = iv (y j)) : IAt w.heap.size w (some ⟨b, 0 + off * 1, none⟩) m (fun j => iv (y j)) := by
 refine ⟨b, 0 + off * 1, fun _ => rfl, fun _ => hO.lt k hk, fun i hi => ?_⟩
 have := hO.cellI k hk ((off : Int) + i) (by omega) (by omega)
 rw [hG i (by omega) (by omega), show ((off : Int) + i).toNat = off * 1 + i by omega, ← Nat.add_assoc] at this
 exact this
theorem perm_row {α : Type} {x a b c d e : α} {M T : List α} : (x :: a :: b :: c :: d :: e :: (M ++ T)).Perm (a :: b :: c :: d :: e :: ((M ++ [x]) ++ T)) := (List.perm_append_comm (l₁ := [x]) (l₂ := a :: b :: c :: d :: e :: M)).append_right T
theorem rows_snoc {nr : Nat} {ch : Nat → Option Blk} {c : Option Blk} : (List.range (nr + 1)).map (fun r => if r = nr then c else ch r) = (List.range nr).map ch ++ [c] := by
 rw [List.range_succ, List.map_append]
 congr 1
 ·refine List.map_congr_left fun i hi => ?_
  rw [if_neg (by have := List.mem_range.1 hi; omega)]
 ·simp
def ROwn (H : List (Option Blk)) (oa : Option Addr) (n : Nat) (L : Int → Nat) (R : Int → Int → Int) : Prop :=
 ∃ (A : Int → Option Addr) (C : Int → Nat), (∀ r : Int, 0 ≤ r → r < n → L r ≤ C r) ∧ ∀ (B : Nat) (w0 w : World), Own B w0 w H → IAt w.heap.size w oa n (fun r => .slice (A r) (L r) (C r)) ∧ ∀ r : Int, 0 ≤ r → r < n → IAt w.heap.size w (A r) (L r) (fun c => iv (R r c))
theorem rown_of {H : List (Option Blk)} {ao : Option Addr} {m cap n : Nat} {T1 T2 : TypeId} {vv : Int → Value} {L : Int → Nat} {F : Int → Int → Int} {c : Option Blk} (k : Nat) (hk : H[k]? = some c) (h2 : IRow (.slice ao m cap) T1 n vv c)
  (h3 : ∀ r : Int, 0 ≤ r → r < n → ∃ (j : Nat) (x : Option Blk), H[j]? = some x ∧ IRow (vv r) T2 (L r) (fun c => iv (F r c)) x) : ROwn H ao n L F := by
 have hv : ∀ r : Int, ∃ p : Option Addr × Nat, 0 ≤ r → r < n → vv r = .slice p.1 (L r) p.2 := fun r => by
  by_cases hr : 0 ≤ r ∧ r < n
  ·obtain ⟨j, x, _, h⟩ := h3 r hr.1 hr.2
   obtain ⟨a, b, e⟩ := Row.val h
   exact ⟨(a, b), fun _ _ => e⟩
  ·exact ⟨(none, 0), fun a b => absurd ⟨a, b⟩ hr⟩
 have hAC : ∀ r : Int, 0 ≤ r → r < n → vv r = .slice (Classical.choose (hv r)).1 (L r) (Classical.choose (hv r)).2 := fun r h0 hr => Classical.choose_spec (hv r) h0 hr
 have hrow : ∀ r : Int, 0 ≤ r → r < n → ∃ (j : Nat) (x : Option Blk), H[j]? = some x ∧ IRow (.slice (Classical.choose (hv r)).1 (L r) (Classical.choose (hv r)).2) T2 (L r) (fun c => iv (F r c)) x := fun r r0 r1 => by
  obtain ⟨j, x, hj, h⟩ := h3 r r0 r1
  rw [hAC r r0 r1] at h
  exact ⟨j, x, hj, h⟩
 refine ⟨fun r => (Classical.choose (hv r)).1, fun r => (Classical.choose (hv r)).2, fun r h0 hr => ?_, fun B w0 w hO => ⟨(h2.reads hO k hk).congr hAC, fun r h0 hr => ?_⟩⟩
 ·obtain ⟨_, _, _, h⟩ := hrow r h0 hr
  exact h.capF
 ·obtain ⟨j, x, hj, h⟩ := hrow r h0 hr
  exact h.reads hO j hj
theorem RO.perm {W : Wish} {gone : Int → Bool} {o : Int → Int} {nr : Nat} {L : Int → Nat} {R : Int → Int → Int} (h : RO W gone o nr L R) {σ : Int → Int} (hr : ∀ r : Int, 0 ≤ r → r < nr → 0 ≤ σ r ∧ σ r < nr) (hi : ∀ r s : Int, 0 ≤ r → r < nr → 0 ≤ s → s < nr → σ r = σ s → r = s) : RO W gone o nr (fun r => L (σ r)) (fun r => R (σ r)) := by
 refine ⟨fun r r0 r1 => h.pos _ (hr r r0 r1).1 (hr r r0 r1).2, fun r k r0 r1 => h.rng _ k (hr r r0 r1).1 (hr r r0 r1).2, fun r k r0 r1 => h.cyc _ k (hr r r0 r1).1 (hr r r0 r1).2, fun x x0 x1 hx => ?_, fun r k r' k' r0 r1 k0 k1 r0' r1' k0' k1' e => ?_, fun r k r0 r1 => h.min _ k (hr r r0 r1).1 (hr r r0 r1).2⟩
 ·obtain ⟨r, k, ⟨r0, r1⟩, hk, e⟩ := h.cov x x0 x1 hx
  obtain ⟨s, s0, s1, es⟩ := perm_surj (n := nr) (by omega) hr hi r0 r1
  exact ⟨s, k, ⟨s0, s1⟩, by rw [es]; exact hk, by rw [es]; exact e⟩
 ·obtain ⟨e1, e2⟩ := h.dis _ k _ k' (hr r r0 r1).1 (hr r r0 r1).2 k0 k1 (hr r' r0' r1').1 (hr r' r0' r1').2 k0' k1' e
  exact ⟨hi r r' r0 r1 r0' r1' e1, e2⟩
def SortRows : Prop := ∀ (B : Nat) (w0 w : World) (oa : Option Addr) (nr ocap : Nat) (Lr : Int → Nat) (R : Int → Int → Int) (rv : Int → Value) (ch : Nat → Option Blk) (co : Option Blk) (T : List (Option Blk)), nr ≤ 64 → (∀ r : Int, 0 ≤ r → r < nr → 1 ≤ Lr r ∧ 0 ≤ R r 0 ∧ R r 0 ≤ 1000) →
 (∀ r s : Int, 0 ≤ r → r < nr → 0 ≤ s → s < nr → R r 0 = R s 0 → r = s) → IRow (.slice oa nr ocap) 36 nr rv co → (∀ r : Nat, r < nr → IRow (rv r) 3 (Lr r) (fun k => iv (R r k)) (ch r)) → Own B w0 w (co :: ((List.range nr).map ch ++ T)) →
 Calls Tryz.prog 124 #[.slice oa nr ocap, .func (.func 125) #[] #[]] w fun e w' => e = .returned (.tuple #[]) ∧ ∃ (σ : Int → Int) (co' : Option Blk), (∀ r : Int, 0 ≤ r → r < nr → 0 ≤ σ r ∧ σ r < nr) ∧ (∀ r s : Int, 0 ≤ r → r < nr → 0 ≤ s → s < nr → σ r = σ s → r = s) ∧ (∀ r : Int, 0 ≤ r → r + 1 < nr → R (σ r) 0 < R (σ (r + 1)) 0) ∧ IRow (.slice oa nr ocap) 36 nr (fun r => rv (σ r)) co' ∧ Own B w0 w' (co' :: ((List.range nr).map ch ++ T))
def RFacts (W : Wish) (gone : Int → Bool) (nr : Nat) (v : Value) (co : Option Blk) (rows : List (Option Blk)) : Prop :=
 ∃ (o t : Int → Int) (Lr : Int → Nat) (R : Int → Int → Int) (rv : Int → Value) (ch : Nat → Option Blk), W.TS gone o t nr ∧ RO W gone o nr Lr R ∧ IRow v 36 nr rv co ∧ rows = (List.range nr).map ch ∧ ∀ r : Nat, r < nr → IRow (rv r) 3 (Lr r) (fun k => iv (R r k)) (ch r)
def PFacts (W : Wish) (gone : Int → Bool) (p : Int → Nat) : Prop := ∀ i : Int, 0 ≤ i → i < W.n → p i < W.l i ∧ ∀ k : Int, 0 ≤ k → k < p i → gone (W.e i k) = true
theorem PFacts.upd {W : Wish} {gone : Int → Bool} {p : Int → Nat} (h : PFacts W gone p) {a : Int} {q : Nat} (h1 : q < W.l a) (h2 : ∀ k : Int, 0 ≤ k → k < q → gone (W.e a k) = true) : PFacts W gone (updN p a q) := fun i i0 i1 => by
 unfold updN
 by_cases e : i = a
 ·rw [if_pos e, e]; exact ⟨h1, h2⟩
 ·rw [if_neg e]; exact h i i0 i1
def SwapOk (n : Nat) (L : Int → Nat) (E : Int → Int → Int) : Prop := ∀ i : Int, 0 ≤ i → i < n → IsL (L i) (E i) n
theorem wrow_succ {rb cp : Int → Nat} {G : Int → Int → Value} {q x y : Nat} {z : Int → Value} : (List.range (q + 1)).map (wrow (updN rb q x) (updN cp q y) (fun i => if i = q then z else G i)) = (List.range q).map (wrow rb cp G) ++ [some (vch x 3 y z)] := by
 rw [List.range_succ, List.map_append]
 congr 1
 ·refine List.map_congr_left fun i hi => ?_
  have : (i : Int) ≠ q := by have := List.mem_range.1 hi; omega
  unfold wrow updN
  simp only [if_neg this]
 ·simp [wrow, updN]
set_option maxHeartbeats 4000000 in
theorem rings_any (hSort : SortRows) (ga : Option Addr) (gc n : Nat) (L : Int → Nat) (E : Int → Int → Int) (w : World) (hn : n ≤ 64) (hv : SwapOk n L E) (h : RTab w.heap.size w ga n L E) :
    Calls Tryz.prog 71 #[.agg #[.slice ga n gc]] w fun e w' => ∃ (oa : Option Addr) (nr ocap : Nat) (Lr : Int → Nat) (R : Int → Int → Int) (o t : Int → Int) (H : List (Option Blk)), e = .returned (.slice oa nr ocap) ∧ Own w.heap.size w w' H ∧ ROwn H oa nr Lr R ∧ (wishOf n L E).Cert o t ∧ RO (wishOf n L E) (fun _ => true) o nr Lr R ∧ ∀ r : Int, 0 ≤ r → r + 1 < nr → R r 0 < R (r + 1) 0 := by
  have hL : ∀ i : Int, 0 ≤ i → i < n → L i ≤ n := fun i i0 i1 => pigeon (hv i i0 i1).1 (hv i i0 i1).2
  have hW := wishOf_ok hv
  obtain ⟨W, hWd⟩ : ∃ W, W = wishOf n L E := ⟨_, rfl⟩
  rw [← hWd] at hW
  have hWn : W.n = n := by rw [hWd]; rfl
  have hWl : ∀ i : Int, 0 ≤ i → i < n → W.l i ≤ n + 1 := fun i i0 i1 => by
    have h1 := rk_rng (E i) i (L i)
    have h2 := hL i i0 i1
    rw [hWd]
    show (rk (E i) (L i) i).toNat + 1 ≤ n + 1
    omega
  refine calls_of_run (F := [(0, _)]) Tryz.func71 rfl Tryz.ntmps71 rfl rfl ?_
  have hO0 := Own.init w
  refine run_seq <| run_region <| rl_ow rfl (ow_box _ rfl rfl rfl rfl rfl hO0) ?_
  rintro _ w1 ⟨b1, rfl, hO2, hs3⟩
  refine rl_v rfl rfl rfl (ov_assign rfl rfl) <| rl_nil <| run_seq <| run_region <| rl_v rfl rfl rfl (ov_fieldS rfl Tryz.underlying98 rfl (fo := 0) rfl (by kernel_rfl) rfl) ?_
  refine rl_v rfl rfl rfl (ov_load rfl Tryz.underlying69 rfl rfl (by exact hO2.cellL 0 rfl (off := 0) rfl)) ?_
  refine rl_v rfl rfl rfl (ov_len rfl Tryz.underlying69 rfl) <| rl_v rfl rfl rfl (ov_assign rfl rfl) <| rl_nil <| run_seq <| run_region <| rl_v rfl rfl rfl (ov_move rfl rfl) ?_
  refine rl_make (n) rfl rfl rfl rfl Tryz.underlying69 info_36 rfl hO2 rfl rfl (by rfl) (by rfl) ⟨by omega, by omega⟩ (fun wb w4 hO5 hs6 => ?_)
  refine rl_ow rfl (ow_alloc _ rfl rfl rfl zero_69 rfl hO5) ?_
  rintro _ w7 ⟨tw, rfl, hO8, hs9⟩
  refine rl_ow rfl (ow_storeL rfl rfl (by kernel_rfl) hO8 0 rfl rfl rfl rfl rfl) ?_
  rintro _ w10 ⟨rfl, hO11, hs12⟩
  refine rl_nil <| run_seq <| run_seq <| run_region <| rl_v rfl rfl rfl (ov_load rfl Tryz.underlying69 rfl rfl (by exact hO11.cellL 0 rfl (off := 0) rfl)) ?_
  refine rl_v rfl rfl rfl (ov_len rfl Tryz.underlying69 rfl) <| rl_v rfl rfl rfl (ov_move rfl rfl) <| rl_nil <| run_block <| Run.keep [1, 3, 4, 22, 23] (F' := [(1, _), (3, _), (4, _), (22, _), (23, _)]) rfl <| run_loop4 (fun (k : Int) (rb : Int → Nat) (cp : Int → Nat) (G : Int → Int → Value) => [(23, .int .i64 k)]) [1, 3, 4, 22] (fun (k : Int) (rb : Int → Nat) (cp : Int → Nat) (G : Int → Int → Value) (w13 : World) => 0 ≤ k ∧ k ≤ n ∧ (∀ i : Int, 0 ≤ i → i < k → W.l i ≤ cp i ∧ cp i ≤ maxLen) ∧ (∀ i j : Int, 0 ≤ i → i < k → 0 ≤ j → j < W.l i → G i j = iv (W.e i j)) ∧ Own w.heap.size w w13 (some (lch tw 69 [.slice (some ⟨wb, 0, none⟩) n n]) :: some (vch wb 36 n (fun i => if i < k then .slice (some ⟨rb i, 0, none⟩) (W.l i) (cp i) else .slice none 0 0)) :: some (lch b1 98 [.slice ga n gc]) :: (List.range k.toNat).map (wrow rb cp G))) (fun (k : Int) (rb : Int → Nat) (cp : Int → Nat) (G : Int → Int → Value) => ((n : Int) - k).toNat) (0) (fun _ => 0) (fun _ => 0) (fun _ _ => undef) ?_ (And.intro (by exact slot_int rfl (by first | omega)) (And.intro rfl (And.intro rfl (And.intro rfl (And.intro rfl trivial))))) ?_
  · exact ⟨by omega, by omega, fun i i0 i1 => by omega, fun i j i0 i1 => by omega, hO11.congrI 1 rfl fun i i0 i1 => (if_neg (by omega)).symm⟩
  intro k rb cp G w13 hIw13 ih14
  obtain ⟨hk0, hk1, hcp, hG, hO⟩ := hIw13
  show Run _ _ _ _ [(23, _), (1, _), (3, _), (4, _), (22, _)] _ _
  refine run_seq <| run_region <| rl_v rfl rfl rfl (ov_lss rfl rfl rfl) <| rl_nil <| run_seq ?_
  first | refine run_cond_dec rfl (fun h1 => ?_) (fun h1 => ?_) | refine run_cond rfl (fun h1 => ?_) (fun h1 => ?_)
  · refine run_skip <| run_seq <| run_block <| run_seq <| run_region <| rl_v rfl rfl rfl (ov_move rfl rfl) <| rl_v rfl rfl rfl (ov_assign rfl rfl) <| rl_nil <| run_late (fun w' => Own w.heap.size w w' ([some (lch tw 69 [.slice (some ⟨wb, 0, none⟩) n n]), some (lch b1 98 [.slice ga n gc])])) 6 mixed ?_
    have hO16 := hO.drew
    generalize World.drew w13 = w15 at hO16 ⊢
    have hS17 : Own w.heap.size w w15 ([some (lch tw 69 [.slice (some ⟨wb, 0, none⟩) n n]), some (lch b1 98 [.slice ga n gc])]) := by first | exact hO16.sub (.cons_cons _ (.cons _ (.cons_cons _ (List.nil_sublist _)))) | exact hO16.sub (.cons _ (.cons_cons _ (.cons _ (.cons_cons _ (List.nil_sublist _)))))
    refine rhl_v 0 rfl (by kernel_rfl) rfl rfl rfl hS17 (fun _ hS => ov_load rfl Tryz.underlying69 rfl rfl (by exact hS.cellL 0 rfl (off := 0) rfl)) ?_
    refine rhl_v 1 rfl (by kernel_rfl) rfl rfl rfl hS17 (fun _ hS => ov_move rfl rfl) ?_
    refine rhl_v 2 rfl (by kernel_rfl) rfl rfl rfl hS17 (fun _ hS => ov_loadW rfl Tryz.underlying98 rfl (by kernel_rfl) rfl hS 1 rfl) ?_
    refine rhl_v 3 rfl (by kernel_rfl) rfl rfl rfl hS17 (fun _ hS => ov_move rfl rfl) ?_
    refine rhl_any1 4 (by kernel_rfl) ?_
    refine rcl_op rfl rfl (ow_call2 callable_121 rfl rfl rfl rfl rfl (wishes_any ga n gc L E k _ hk0 h1 (by omega) (by have := hL k hk0 h1; omega) (hO16.rtab h)) (by intro e w' hp; obtain ⟨v, c, rfl, hrv, hOw⟩ := hp; exact ⟨_, rfl⟩)) ?_
    rintro _ w20 ⟨_, v18, he21, rfl, hp19⟩
    obtain ⟨v, c, rfl, hrv, hOw⟩ := hp19
    injection he21 with he21; subst he21
    have hO22 := hO16.join hOw
    have hS23 : Own w.heap.size w w20 ([some (lch tw 69 [.slice (some ⟨wb, 0, none⟩) n n]), some (lch b1 98 [.slice ga n gc])]) := by first | exact hO22.sub (.cons_cons _ (.cons _ (.cons_cons _ (List.nil_sublist _)))) | exact hO22.sub (.cons _ (.cons_cons _ (.cons _ (.cons_cons _ (List.nil_sublist _)))))
    refine ⟨hS23, ?_⟩
    rw [← hWd] at hrv
    obtain ⟨ao, cap, rfl⟩ := Row.val hrv
    obtain ⟨rbk, G1, rfl, hnc, hmx, rfl, hG1⟩ := hrv.asV (hW.len k hk0 (by omega))
    refine rhl_v 5 rfl (by kernel_rfl) rfl rfl rfl hS23 (fun _ hS => ov_index1 rfl Tryz.underlying69 (by kernel_rfl) rfl rfl ⟨by omega, by omega⟩ rfl) ?_
    refine rhl_any1 6 (by kernel_rfl) ?_
    refine rcl_last rfl rfl (ow_store rfl rfl (by kernel_rfl) hO22 2 rfl rfl ⟨by omega, by omega⟩ rfl rfl) ?_
    rintro _ w24 ⟨rfl, hO25, hs26⟩
    obtain ⟨q, rfl⟩ := Int.eq_ofNat_of_zero_le hk0
    have hwb : ∀ i : Int, 0 ≤ i → i < n → upd (fun i => if i < (q : Int) then Value.slice (some ⟨rb i, 0, none⟩) (W.l i) (cp i) else .slice none 0 0) (q : Int) (.slice (some ⟨rbk, 0, none⟩) (W.l q) cap) i = if i < (q : Int) + 1 then .slice (some ⟨updN rb q rbk i, 0, none⟩) (W.l i) (updN cp q cap i) else .slice none 0 0 := fun i i0 i1 => by
      unfold upd updN
      by_cases e : i = q
      · rw [if_pos e, if_pos (by omega), if_pos e, if_pos e, e]
      · rw [if_neg e, if_neg e, if_neg e]
        by_cases e2 : i < q
        · rw [if_pos (by omega)]; exact if_pos e2
        · rw [if_neg (by omega)]; exact if_neg e2
    have hcp' : ∀ i : Int, 0 ≤ i → i < (q : Int) + 1 → W.l i ≤ updN cp q cap i ∧ updN cp q cap i ≤ maxLen := fun i i0 i1 => by
      unfold updN
      by_cases e : i = q
      · rw [if_pos e, e]; exact ⟨hnc, hmx⟩
      · rw [if_neg e]; exact hcp i i0 (by omega)
    have hG' : ∀ i j : Int, 0 ≤ i → i < (q : Int) + 1 → 0 ≤ j → j < W.l i → (if i = q then G1 else G i) j = iv (W.e i j) := fun i j i0 i1 j0 j1 => by
      by_cases e : i = q
      · rw [if_pos e]; subst e; exact hG1 j j0 j1
      · rw [if_neg e]; exact hG i j i0 (by omega) j0 j1
    refine rhl_done (by kernel_rfl) ?_
    refine run_inBlock <| run_region <| rl_v rfl rfl rfl (ov_add rfl rfl rfl (by omega)) ?_
    refine rl_v rfl rfl rfl (ov_move rfl rfl) <| rl_nil ?_
    refine Run.use (ih14 ((q : Int) + 1) (updN rb q rbk) (updN cp q cap) (fun i => if i = q then G1 else G i) _ ?_ ?_) (And.intro (by exact slot_int rfl (by first | omega)) (And.intro rfl (And.intro rfl (And.intro rfl (And.intro rfl trivial)))))
    · first | omega | (dsimp only; omega)
    · exact ⟨by omega, by omega, hcp', hG', by rw [show ((q : Int) + 1).toNat = q + 1 by omega, wrow_succ]; exact (hO25.congrI 2 rfl hwb).perm perm_sink3⟩
  · have hkn : k = n := by omega
    subst hkn
    refine run_exit rfl <| run_seq <| run_region <| rl_v rfl rfl rfl (ov_move rfl rfl) ?_
    refine rl_make (n) rfl rfl rfl rfl Tryz.underlying92 info_4 rfl hO rfl rfl (by rfl) (by rfl) ⟨by omega, by omega⟩ (fun gbk w27 hO28 hs29 => ?_)
    refine rl_ow rfl (ow_alloc _ rfl rfl rfl zero_92 rfl hO28) ?_
    rintro _ w30 ⟨tg, rfl, hO31, hs32⟩
    refine rl_ow rfl (ow_storeL rfl rfl (by kernel_rfl) hO31 0 rfl rfl rfl rfl rfl) ?_
    rintro _ w33 ⟨rfl, hO34, hs35⟩
    obtain ⟨M, hMd⟩ : ∃ M, M = (List.range W.n).map (wrow rb cp G) := ⟨_, rfl⟩
    have hR5 : Rows5 W rb cp M := by rw [hMd]; exact rows5_of (fun i i0 i1 => hcp i i0 (by omega)) (fun i j i0 i1 => hG i j i0 (by omega))
    have hO9 : Own w.heap.size w w33 (varW tg gbk tw wb W rb cp (fun _ => 0) (fun _ => false) (some (lch b1 98 [.slice ga n gc]) :: M)) := by
      have h := hO34.congrI 3 rfl (G' := hdr W rb cp (fun _ => 0)) fun i i0 i1 => if_pos i1
      rw [hMd]
      unfold varW
      rw [hWn]
      exact h
    have hMs : ∀ (x y : Option Blk) (rows : List (Option Blk)), M.Sublist (x :: y :: (rows ++ (some (lch b1 98 [.slice ga n gc]) :: M))) := fun x y rows => .cons _ (.cons _ (((List.Sublist.refl M).cons _).trans (List.sublist_append_right rows _)))
    refine rl_nil <| run_seq <| run_region <| rl_v rfl rfl rfl (ov_func rfl rfl rfl) <| rl_v rfl rfl rfl (ov_assign rfl rfl) <| rl_nil <| run_seq <| run_region <| rl_v rfl rfl rfl (ov_assign rfl rfl) <| rl_nil <| run_seq <| run_seq <| run_region <| rl_v rfl rfl rfl (ov_move rfl rfl) <| rl_v rfl rfl rfl (ov_move rfl rfl) <| rl_nil <| run_block <| Run.keep [6, 7, 8, 36, 37] (F' := [(6, _), (7, _), (8, _), (36, _), (37, _)]) rfl <| run_loop4 (fun (k : Int) (nr : Nat) (oa : Option Addr) (ocap : Nat) => [(37, .int .i64 k), (8, .slice oa nr ocap)]) [6, 7, 36] (fun (k : Int) (nr : Nat) (oa : Option Addr) (ocap : Nat) (w36 : World) => ∃ (gone : Int → Bool) (p : Int → Nat) (co : Option Blk) (rows : List (Option Blk)), 0 ≤ k ∧ k ≤ n ∧ (∀ i : Int, 0 ≤ i → i < k → gone i = true) ∧ RFacts W gone nr (.slice oa nr ocap) co rows ∧ PFacts W gone p ∧ Own w.heap.size w w36 (varW tg gbk tw wb W rb cp p gone (co :: (rows ++ (some (lch b1 98 [.slice ga n gc]) :: M))))) (fun (k : Int) (nr : Nat) (oa : Option Addr) (ocap : Nat) => ((n : Int) - k).toNat) (0) (0) (none) (0) ?_ (And.intro (by exact slot_int rfl (by first | omega)) (And.intro rfl (And.intro rfl (And.intro rfl (And.intro rfl trivial))))) ?_
    · exact ⟨fun _ => false, fun _ => 0, none, [], by omega, by omega, fun i i0 i1 => by omega, ⟨fun _ => 0, fun _ => 0, fun _ => 0, fun _ _ => 0, fun _ => undef, fun _ => none, Wish.TS.init W _ _, RO.init W _ _ _, IRow.nil _ _, rfl, fun r hr => by omega⟩, fun i i0 i1 => ⟨(show 0 < W.l i from hW.len i i0 i1), fun k k0 k1 => absurd (show k < 0 from k1) (by omega)⟩, hO9.nil_cons.perm perm_in4⟩
    intro k nr oa ocap w36 hIw36 ih37
    obtain ⟨gone, p, co, rows, hk0, hk1, hgk, hF, hP, hO⟩ := hIw36
    show Run _ _ _ _ [(37, _), (8, _), (6, _), (7, _), (36, _)] _ _
    refine run_seq <| run_region <| rl_v rfl rfl rfl (ov_lss rfl rfl rfl) <| rl_nil <| run_seq ?_
    first | refine run_cond_dec rfl (fun h1 => ?_) (fun h1 => ?_) | refine run_cond rfl (fun h1 => ?_) (fun h1 => ?_)
    · refine run_skip <| run_seq <| run_block <| run_seq <| run_region <| rl_v rfl rfl rfl (ov_move rfl rfl) <| rl_v rfl rfl rfl (ov_assign rfl rfl) <| rl_nil <| run_block <| Run.keep [6, 7, 8, 9, 36, 37] (F' := [(6, _), (7, _), (8, _), (9, _), (36, _), (37, _)]) rfl <| run_loop3 (fun (nr : Nat) (oa : Option Addr) (ocap : Nat) => [(8, .slice oa nr ocap)]) [6, 7, 9, 36, 37] (fun (nr : Nat) (oa : Option Addr) (ocap : Nat) (w38 : World) => ∃ (gone : Int → Bool) (p : Int → Nat) (co : Option Blk) (rows : List (Option Blk)), (∀ i : Int, 0 ≤ i → i < k → gone i = true) ∧ RFacts W gone nr (.slice oa nr ocap) co rows ∧ PFacts W gone p ∧ Own w.heap.size w w38 (varW tg gbk tw wb W rb cp p gone (co :: (rows ++ (some (lch b1 98 [.slice ga n gc]) :: M))))) (fun (nr : Nat) (oa : Option Addr) (ocap : Nat) => n - nr) (nr) (oa) (ocap) ?_ (And.intro rfl (And.intro rfl (And.intro rfl (And.intro rfl (And.intro rfl (And.intro rfl trivial)))))) ?_
      · exact ⟨gone, p, co, rows, hgk, hF, hP, hO⟩
      intro nr oa ocap w38 hIw38 ih39
      obtain ⟨gone, p, co, rows, hgk, hF, hP, hO⟩ := hIw38
      show Run _ _ _ _ [(8, _), (6, _), (7, _), (9, _), (36, _), (37, _)] _ _
      refine run_seq <| run_seq <| run_region <| rl_v rfl rfl rfl (ov_load rfl Tryz.underlying92 rfl rfl (by exact hO.cellL 0 rfl rfl)) ?_
      refine rl_v rfl rfl rfl (ov_move rfl rfl) <| rl_v rfl rfl rfl (ov_index1 rfl Tryz.underlying92 (by kernel_rfl) rfl rfl ⟨by omega, by omega⟩ rfl) ?_
      refine rl_v rfl rfl rfl (ov_load rfl Tryz.underlying4 rfl rfl (by exact hO.cellI 1 rfl k (by omega) (by omega))) ?_
      refine rl_v rfl rfl rfl (ov_not rfl rfl) <| rl_nil ?_
      first | refine run_cond_dec rfl (fun h2 => ?_) (fun h2 => ?_) | refine run_cond rfl (fun h2 => ?_) (fun h2 => ?_)
      · have hgk0 : gone k = false := by simpa using h2
        refine run_skip <| run_block <| run_seq <| run_region <| rl_v rfl rfl rfl (ov_assign rfl rfl) <| rl_nil <| run_seq <| run_region <| rl_v rfl rfl rfl (ov_move rfl rfl) <| rl_v rfl rfl rfl (ov_assign rfl rfl) <| rl_nil <| run_seq <| run_block <| Run.keep [6, 7, 8, 9, 10, 11, 36, 37] (F' := [(6, _), (7, _), (8, _), (9, _), (10, _), (11, _), (36, _), (37, _)]) rfl <| run_loop4 (fun (kw : Nat) (wa : Option Addr) (wcap : Nat) (a : Int) => [(10, .slice wa kw wcap), (11, .int .i64 a)]) [6, 7, 8, 9, 36, 37] (fun (kw : Nat) (wa : Option Addr) (wcap : Nat) (a : Int) (w40 : World) => ∃ (y : Int → Int) (p : Int → Nat) (cw : Option Blk), W.Way gone kw y a ∧ IRow (.slice wa kw wcap) 3 kw (fun j => iv (y j)) cw ∧ PFacts W gone p ∧ Own w.heap.size w w40 (varW tg gbk tw wb W rb cp p gone (cw :: co :: (rows ++ (some (lch b1 98 [.slice ga n gc]) :: M))))) (fun (kw : Nat) (wa : Option Addr) (wcap : Nat) (a : Int) => n + 1 - kw) (0) (none) (0) (k) ?_ (And.intro rfl (And.intro (by exact slot_int rfl (by first | omega)) (And.intro rfl (And.intro rfl (And.intro rfl (And.intro rfl (And.intro rfl (And.intro rfl trivial)))))))) ?_
        · exact ⟨fun _ => 0, p, none, Wish.Way.start hk0 (by omega) hgk0 _, IRow.nil _ _, hP, hO.nil_cons.perm perm_in4⟩
        intro kw wa wcap a w40 hIw40 ih41
        obtain ⟨y, p, cw, hwy, hrw, hP, hO⟩ := hIw40
        show Run _ _ _ _ [(10, _), (11, _), (6, _), (7, _), (8, _), (9, _), (36, _), (37, _)] _ _
        have hsh := hwy.short
        refine run_seq <| run_seq <| run_region <| rl_v rfl rfl rfl (ov_move rfl rfl) <| rl_v rfl rfl rfl (ov_move rfl rfl) ?_
        refine rl_call callable_52 rfl rfl rfl rfl rfl rfl (contains5_any wa kw wcap y a _ (by omega) (hrw.reads hO 4 rfl)) (fun e42 w43 hp44 => ?_)
        obtain ⟨rfl, hb⟩ := hp44
        refine ⟨_, rfl, ?_⟩
        have hO45 := hO.past hb
        refine rl_v rfl rfl rfl (ov_not rfl rfl) <| rl_nil ?_
        first | refine run_cond_dec rfl (fun h3 => ?_) (fun h3 => ?_) | refine run_cond rfl (fun h3 => ?_) (fun h3 => ?_)
        · have h3' : ¬ rk y kw a < kw := by simpa using h3
          have hno : ∀ j : Int, 0 ≤ j → j < kw → y j ≠ a := fun j j0 j1 => rk_ne (n := kw) j0 (by omega)
          refine run_skip <| run_block <| run_seq <| run_region <| rl_v rfl rfl rfl (ov_move rfl rfl) <| rl_v rfl rfl rfl (ov_move rfl rfl) <| rl_ow rfl (ow_one rfl rfl rfl Tryz.underlying36 info_3 rfl hO45 rfl rfl) ?_
          rintro _ w46 ⟨b2, rfl, hO47, hs48⟩
          refine rl_ow rfl (ow_app1 rfl rfl rfl Tryz.underlying36 info_3 rfl hO47 4 hrw rfl rfl rfl rfl ⟨by omega, by omega⟩) ?_
          rintro _ w49 ⟨v2, c2, rfl, hO50, hr2, hs51⟩
          obtain ⟨wa2, wcap2, rfl⟩ := Row.val hr2
          obtain ⟨⟨a0, a1⟩, hag⟩ := hwy.atr
          refine rl_v rfl rfl rfl (ov_assign rfl rfl) <| rl_nil <| run_region <| rl_v rfl rfl rfl (ov_move rfl rfl) <| rl_v rfl rfl rfl (ov_move rfl rfl) ?_
          refine rl_call callable_122 rfl rfl rfl rfl rfl rfl (points_any tg gbk tw wb w.heap.size W rb cp p gone a M _ w _ hW (by omega) hR5 (hMs c2 co rows) a0 a1 (by have := hWl a a0 (by omega); omega) hag (hP a a0 a1).1 (hP a a0 a1).2 hO50) (fun e52 w53 hp54 => ?_)
          obtain ⟨q, hq1, hq2, hq3, rfl, hOp⟩ := hp54
          refine ⟨_, rfl, ?_⟩
          refine rl_v rfl rfl rfl (ov_assign rfl rfl) <| rl_nil <| run_inBlock ?_
          refine Run.use (ih41 (kw + 1) (wa2) (wcap2) (W.e a q) _ ?_ ?_) (And.intro rfl (And.intro (by exact slot_int rfl (by first | omega)) (And.intro rfl (And.intro rfl (And.intro rfl (And.intro rfl (And.intro rfl (And.intro rfl trivial))))))))
          · first | omega | (dsimp only; omega)
          · exact ⟨upd y kw a, updN p a q, c2, hwy.step hW hno ⟨q, by omega, by omega, hq2, hq3, rfl⟩, hr2.congr (fun i i0 i1 => by unfold upd; split <;> rfl), hP.upd hq1 hq2, hOp⟩
        · have hin : rk y kw a < kw := by simpa using h3
          obtain ⟨r0, hr0⟩ : ∃ r0 : Nat, (r0 : Int) = rk y kw a := ⟨_, Int.toNat_of_nonneg (rk_rng y a kw).1⟩
          have hr0l : r0 < kw := by omega
          have hya : y r0 = a := by rw [hr0]; exact rk_at hin
          obtain ⟨wy, Gy, rfl, hnc, hmx, rfl, hGy⟩ := hrw.asV (by omega)
          have hm : (kw : Int) - r0 = ((kw - r0 : Nat) : Int) := by omega
          have hring := hwy.ring (a := r0) (by omega) (by omega) hya
          rw [hm] at hring
          refine run_exit rfl <| run_seq <| run_region <| rl_v rfl rfl rfl (ov_move rfl rfl) <| rl_v rfl rfl rfl (ov_move rfl rfl) <| rl_v rfl rfl rfl (ov_move rfl rfl) ?_
          refine rl_call callable_82 rfl rfl rfl rfl rfl rfl (index5_at (some ⟨wy, 0, none⟩) kw wcap r0 y a _ (by omega) hr0.symm hr0l (hrw.reads hO45 4 rfl)) (fun e55 w56 hp57 => ?_)
          obtain ⟨rfl, hb2⟩ := hp57
          refine ⟨_, rfl, ?_⟩
          have hO58 := hO45.past hb2
          refine rl_v rfl rfl rfl (ov_sliceL rfl Tryz.underlying36 (by kernel_rfl) (s := 1) rfl rfl ⟨by omega, by omega⟩ (by omega) rfl) ?_
          refine rl_v rfl rfl rfl (ov_assign rfl rfl) <| rl_nil <| run_seq <| run_seq <| run_region <| rl_v rfl rfl rfl (ov_move rfl rfl) <| rl_v rfl rfl rfl (ov_len rfl Tryz.underlying36 rfl) <| rl_v rfl rfl rfl (ov_move rfl rfl) <| rl_nil <| run_block <| Run.keep [6, 7, 8, 9, 12, 36, 37, 62, 63, 64] (F' := [(6, _), (7, _), (8, _), (9, _), (12, _), (36, _), (37, _), (62, _), (63, _), (64, _)]) rfl <| run_loop2 (fun (j : Int) (g2 : Int → Bool) => [(64, .int .i64 j)]) [6, 7, 8, 9, 12, 36, 37, 62, 63] (fun (j : Int) (g2 : Int → Bool) (w59 : World) => 0 ≤ j ∧ j ≤ ((kw - r0 : Nat) : Int) ∧ (∀ x : Int, 0 ≤ x → x < W.n → (g2 x = true ↔ gone x = true ∨ ∃ i : Int, 0 ≤ i ∧ i < j ∧ y (r0 + i) = x)) ∧ Own w.heap.size w w59 (varW tg gbk tw wb W rb cp p g2 (some (vch wy 3 wcap Gy) :: co :: (rows ++ (some (lch b1 98 [.slice ga n gc]) :: M))))) (fun (j : Int) (g2 : Int → Bool) => (((kw - r0 : Nat) : Int) - j).toNat) (0) (gone) ?_ (And.intro (by exact slot_int rfl (by first | omega)) (And.intro rfl (And.intro rfl (And.intro rfl (And.intro rfl (And.intro rfl (And.intro rfl (And.intro rfl (And.intro rfl (And.intro rfl trivial)))))))))) ?_
          · exact ⟨by omega, by omega, fun x _ _ => ⟨.inl, fun h => h.elim id fun ⟨i, i0, i1, _⟩ => by omega⟩, hO58⟩
          intro j g2 w59 hIw59 ih60
          obtain ⟨hj0, hj1, hg2, hO⟩ := hIw59
          show Run _ _ _ _ [(64, _), (6, _), (7, _), (8, _), (9, _), (12, _), (36, _), (37, _), (62, _), (63, _)] _ _
          refine run_seq <| run_region <| rl_v rfl rfl rfl (ov_lss rfl rfl rfl) <| rl_nil <| run_seq ?_
          first | refine run_cond_dec rfl (fun h4 => ?_) (fun h4 => ?_) | refine run_cond rfl (fun h4 => ?_) (fun h4 => ?_)
          · have hj2 : j < ((kw - r0 : Nat) : Int) := by omega
            have hyr := (hring.rng j hj0 hj2).1
            have hld : World.cell? w59 ⟨wy, 0 + (r0 : Int).toNat * 1 + j.toNat, none⟩ = some (iv (y (r0 + j))) := by
              have := hO.cellI 4 rfl ((r0 : Int) + j) (by omega) (by omega)
              rw [hGy _ (by omega) (by omega), show ((r0 : Int) + j).toNat = (r0 : Int).toNat * 1 + j.toNat by omega, ← Nat.add_assoc] at this
              exact this
            refine run_skip <| run_seq <| run_block <| run_seq <| run_region <| rl_v rfl rfl rfl (ov_index1 rfl Tryz.underlying36 (by kernel_rfl) rfl rfl ⟨by omega, by omega⟩ rfl) ?_
            refine rl_v rfl rfl rfl (ov_load rfl Tryz.underlying3 rfl rfl (by exact id hld)) ?_
            refine rl_v rfl rfl rfl (ov_assign rfl rfl) <| rl_nil <| run_region <| rl_v rfl rfl rfl (ov_load rfl Tryz.underlying92 rfl rfl (by exact hO.cellL 0 rfl rfl)) ?_
            refine rl_v rfl rfl rfl (ov_move rfl rfl) <| rl_v rfl rfl rfl (ov_index1 rfl Tryz.underlying92 (by kernel_rfl) rfl rfl ⟨by omega, by omega⟩ rfl) ?_
            refine rl_ow rfl (ow_store rfl rfl (by kernel_rfl) hO 1 rfl rfl ⟨by omega, by omega⟩ rfl rfl) ?_
            rintro _ w61 ⟨rfl, hO62, hs63⟩
            have hg3 : ∀ x : Int, 0 ≤ x → x < W.n → (upd g2 (y (r0 + j)) true x = true ↔ gone x = true ∨ ∃ i : Int, 0 ≤ i ∧ i < j + 1 ∧ y (r0 + i) = x) := fun x x0 x1 => by
              by_cases e : x = y (r0 + j)
              · rw [e, upd_same]; exact ⟨fun _ => .inr ⟨j, hj0, by omega, rfl⟩, fun _ => rfl⟩
              · rw [upd_ne _ _ e, hg2 x x0 x1]
                refine or_congr Iff.rfl ⟨fun ⟨i, i0, i1, h⟩ => ⟨i, i0, by omega, h⟩, fun ⟨i, i0, i1, h⟩ => ⟨i, i0, ?_, h⟩⟩
                have : i ≠ j := fun e2 => by rw [e2] at h; exact e h.symm
                omega
            refine rl_nil <| run_inBlock <| run_region <| rl_v rfl rfl rfl (ov_add rfl rfl rfl (by omega)) ?_
            refine rl_v rfl rfl rfl (ov_move rfl rfl) <| rl_nil ?_
            refine Run.use (ih60 (j + 1) (upd g2 (y (r0 + j)) true) _ ?_ ?_) (And.intro (by exact slot_int rfl (by first | omega)) (And.intro rfl (And.intro rfl (And.intro rfl (And.intro rfl (And.intro rfl (And.intro rfl (And.intro rfl (And.intro rfl (And.intro rfl trivial))))))))))
            · first | omega | (dsimp only; omega)
            · exact ⟨by omega, by omega, hg3, hO62.congrI 1 rfl (G' := fun x => .bool (upd g2 (y (r0 + j)) true x)) fun x _ _ => by unfold upd; split <;> rfl⟩
          · obtain rfl : j = ((kw - r0 : Nat) : Int) := by omega
            have hsub : ∀ {w9 : World}, Own w.heap.size w w9 (varW tg gbk tw wb W rb cp p g2 (some (vch wy 3 wcap Gy) :: co :: (rows ++ (some (lch b1 98 [.slice ga n gc]) :: M)))) → IAt w9.heap.size w9 (some ⟨wy, 0 + r0 * 1, none⟩) (kw - r0) (fun j => iv (y (r0 + j))) := fun {w9} h => h.subAt 4 rfl r0 (kw - r0) (fun j => y (r0 + j)) (by omega) fun j j0 j1 => hGy _ (by omega) (by omega)
            refine run_exit rfl <| run_seq <| run_region <| rl_v rfl rfl rfl (ov_move rfl rfl) <| rl_v rfl rfl rfl (ov_move rfl rfl) ?_
            refine rl_call callable_123 rfl rfl rfl rfl rfl rfl (min5_any (some ⟨wy, 0 + r0 * 1, none⟩) (kw - r0) (wcap - r0) (fun j => y (r0 + j)) _ (by omega) (by omega) (hsub hO)) (fun e64 w65 hp66 => ?_)
            obtain ⟨⟨m0, rfl, ⟨im, im0, im1, him⟩, hmin⟩, hb3⟩ := hp66
            refine ⟨_, rfl, ?_⟩
            have hO67 := hO.past hb3
            have him2 : rk (fun j => y (r0 + j)) (kw - r0) m0 = im := rk_of hring.dis im0 im1 him
            obtain ⟨a9, ha9⟩ : ∃ a9 : Nat, (a9 : Int) = im := ⟨_, Int.toNat_of_nonneg im0⟩
            refine rl_call callable_82 rfl rfl rfl rfl rfl rfl (index5_at (some ⟨wy, 0 + r0 * 1, none⟩) (kw - r0) (wcap - r0) a9 (fun j => y (r0 + j)) m0 _ (by omega) (by rw [him2, ha9]) (by omega) (hsub hO67)) (fun e68 w69 hp70 => ?_)
            obtain ⟨rfl, hb4⟩ := hp70
            refine ⟨_, rfl, ?_⟩
            have hO71 := hO67.past hb4
            obtain ⟨o, t, Lr, R, rv, ch, hTS, hRO, hro, hrows, hch⟩ := hF
            have hnr := hRO.short
            have ham : a9 < kw - r0 := by omega
            have hsub2 : ∀ {w9 : World}, Own w.heap.size w w9 (varW tg gbk tw wb W rb cp p g2 (some (vch wy 3 wcap Gy) :: co :: (rows ++ (some (lch b1 98 [.slice ga n gc]) :: M)))) → IAt w9.heap.size w9 (some ⟨wy, 0 + r0 * 1 + a9 * 1, none⟩) (kw - r0 - a9) (fun j => iv (y (r0 + (a9 + j)))) := fun {w9} h => by
              have := h.subAt 4 rfl (r0 + a9) (kw - r0 - a9) (fun j => y (r0 + (a9 + j))) (by omega) fun j j0 j1 => by
                rw [show (((r0 + a9 : Nat) : Int) + j) = r0 + (a9 + j) by omega]
                exact hGy _ (by omega) (by omega)
              rw [show 0 + (r0 + a9) * 1 = 0 + r0 * 1 + a9 * 1 by omega] at this
              exact this
            refine rl_v rfl rfl rfl (ov_assign rfl rfl) <| rl_nil <| run_held (fun w' => Own w.heap.size w w' ([])) mixed ?_
            have hO73 := hO71.drew
            generalize World.drew w69 = w72 at hO73 ⊢
            have hS74 : Own w.heap.size w w72 ([]) := by exact hO73.none_
            refine rh_v 0 rfl (by kernel_rfl) rfl rfl rfl hS74 (fun _ hS => ov_move rfl rfl) ?_
            refine rh_v 1 rfl (by kernel_rfl) rfl rfl rfl hS74 (fun _ hS => ov_move rfl rfl) ?_
            refine rh_v 2 rfl (by kernel_rfl) rfl rfl rfl hS74 (fun _ hS => ov_move rfl rfl) ?_
            refine rh_v 3 rfl (by kernel_rfl) rfl rfl rfl hS74 (fun _ hS => ov_sliceL rfl Tryz.underlying36 (by kernel_rfl) (s := 1) rfl rfl ⟨by omega, by omega⟩ (by omega) rfl) ?_
            refine rh_v 5 rfl (by kernel_rfl) rfl rfl rfl hS74 (fun _ hS => ov_move rfl rfl) ?_
            refine rh_v 6 rfl (by kernel_rfl) rfl rfl rfl hS74 (fun _ hS => ov_move rfl rfl) ?_
            refine rh_v 7 rfl (by kernel_rfl) rfl rfl rfl hS74 (fun _ hS => ov_sliceH (a9) (s := 1) rfl Tryz.underlying36 (by kernel_rfl) rfl rfl (by rfl) (by omega)) ?_
            refine rh_any1 4 (by kernel_rfl) ?_
            refine rc_op rfl rfl (ow_call2 callable_53 rfl rfl rfl rfl rfl (clone5_any (some ⟨wy, 0 + r0 * 1 + a9 * 1, none⟩) (kw - r0 - a9) (wcap - r0 - a9) (fun j => y (r0 + (a9 + j))) _ (by omega) (hsub2 hO73)) (by intro e w' hp; obtain ⟨v8, c8, rfl, hr8, hO8⟩ := hp; exact ⟨_, rfl⟩)) ?_
            rintro _ w77 ⟨_, v75, he78, rfl, hp76⟩
            obtain ⟨v8, c8, rfl, hr8, hO8⟩ := hp76
            injection he78 with he78; subst he78
            have hO79 := hO73.join hO8
            have hS80 : Own w.heap.size w w77 ([]) := by exact hO79.none_
            refine ⟨hS80, ?_⟩
            refine rh_any1 8 (by kernel_rfl) ?_
            refine rc_op rfl rfl (ow_appS rfl rfl rfl Tryz.underlying36 info_3 rfl hO79 0 hr8 rfl rfl rfl (((hsub hO79.tail).take (show a9 ≤ kw - r0 by omega))) (fun _ => rfl) ⟨by omega, by omega⟩) ?_
            rintro _ w81 ⟨v7, c7, rfl, hO82, hr7, hs83⟩
            have hS84 : Own w.heap.size w w81 ([]) := by exact hO82.none_
            refine ⟨hS84, ?_⟩
            obtain ⟨ao7, cap7, rfl⟩ := Row.val hr7
            refine rh_any1 9 (by kernel_rfl) ?_
            refine rc_op rfl rfl (ow_one rfl rfl rfl Tryz.underlying69 info_36 rfl hO82 rfl rfl) ?_
            rintro _ w85 ⟨b9, rfl, hO86, hs87⟩
            have hS88 : Own w.heap.size w w85 ([]) := by exact hO86.none_
            refine ⟨hS88, ?_⟩
            refine rh_any1 10 (by kernel_rfl) ?_
            refine rc_op rfl rfl (ow_app1 rfl rfl rfl Tryz.underlying69 info_36 rfl hO86 6 hro rfl rfl rfl rfl ⟨by omega, by omega⟩) ?_
            rintro _ w89 ⟨v5, c5, rfl, hO90, hr5, hs91⟩
            have hS92 : Own w.heap.size w w89 ([]) := by exact hO90.none_
            refine ⟨hS92, ?_⟩
            obtain ⟨ao5, cap5, rfl⟩ := Row.val hr5
            have hm9 : kw - r0 - a9 + a9 = kw - r0 := by omega
            have hrT := hring.turn (a := a9) (by omega) (by omega)
            have hminT : ∀ k : Int, 0 ≤ k → k < ((kw - r0 : Nat) : Int) → Wish.turn ((kw - r0 : Nat) : Int) a9 (fun j => y (r0 + j)) 0 ≤ Wish.turn ((kw - r0 : Nat) : Int) a9 (fun j => y (r0 + j)) k := fun k k0 k1 => by
              have hx := Wish.tix_rng (m := ((kw - r0 : Nat) : Int)) (a := a9) (by omega) (by omega) k0 k1
              have h0 : Wish.turn ((kw - r0 : Nat) : Int) a9 (fun j => y (r0 + j)) 0 = m0 := by
                unfold Wish.turn
                rw [if_pos (by omega), Int.add_zero, ha9]; exact him
              rw [h0, Wish.turn_tix]
              exact hmin _ hx.1 hx.2
            have hgT : ∀ x : Int, 0 ≤ x → x < W.n → (g2 x = true ↔ gone x = true ∨ ∃ j : Int, 0 ≤ j ∧ j < ((kw - r0 : Nat) : Int) ∧ Wish.turn ((kw - r0 : Nat) : Int) a9 (fun j => y (r0 + j)) j = x) := fun x x0 x1 => by
              rw [hg2 x x0 x1]
              refine or_congr Iff.rfl ⟨fun ⟨i, i0, i1, h⟩ => ?_, fun ⟨i, i0, i1, h⟩ => ?_⟩
              · obtain ⟨k, k0, k1, e⟩ := Wish.tix_hit (m := ((kw - r0 : Nat) : Int)) (a := a9) (by omega) (by omega) i0 i1
                exact ⟨k, k0, k1, by rw [Wish.turn_tix, e]; exact h⟩
              · have hx := Wish.tix_rng (m := ((kw - r0 : Nat) : Int)) (a := a9) (by omega) (by omega) i0 i1
                rw [Wish.turn_tix] at h
                exact ⟨_, hx.1, hx.2, h⟩
            have hrow9 : IRow (.slice ao7 (kw - r0 - a9 + a9) cap7) 3 (kw - r0) (fun k => iv (Wish.turn ((kw - r0 : Nat) : Int) a9 (fun j => y (r0 + j)) k)) c7 := by
              rw [← hm9]
              rw [hm9]
              have h9 := hr7
              rw [hm9] at h9 ⊢
              refine h9.congr fun k k0 k1 => ?_
              unfold joinF Wish.turn
              by_cases e : k < ((kw - r0 - a9 : Nat) : Int)
              · rw [if_pos e, if_pos (by omega)]
              · rw [if_neg e, if_neg (by omega), show k - ((kw - r0 - a9 : Nat) : Int) = k - (((kw - r0 : Nat) : Int) - a9) by omega]
            have hF9 : RFacts W g2 (nr + 1) (.slice ao5 (nr + 1) cap5) c5 (rows ++ [c7]) := by
              refine ⟨_, _, _, _, _, fun r => if r = nr then c7 else ch r, hTS.ring hW hrT hgT, hRO.add hrT hminT hgT, hr5, by rw [rows_snoc, hrows], fun r hr => ?_⟩
              unfold updN updR upd
              by_cases e : r = nr
              · rw [e, if_pos rfl, if_pos rfl, if_pos rfl]; show IRow _ _ _ _ (if nr = nr then c7 else ch nr); rw [if_pos rfl]; exact hrow9
              · rw [if_neg (show ¬ (r : Int) = nr by omega), if_neg (show ¬ (r : Int) = nr by omega), if_neg (show ¬ (r : Int) = nr by omega)]; show IRow _ _ _ _ (if r = nr then c7 else ch r); rw [if_neg e]; exact hch r (by omega)
            have hgm : ∀ x : Int, 0 ≤ x → x < W.n → gone x = true → g2 x = true := fun x x0 x1 h => (hg2 x x0 x1).2 (.inl h)
            have hP9 : PFacts W g2 p := fun i i0 i1 => ⟨(hP i i0 i1).1, fun k k0 k1 => by
              have hk := (hP i i0 i1).2 k k0 k1
              have hr := hW.rng i k i0 i1 k0 (by have := (hP i i0 i1).1; omega)
              exact hgm _ hr.1 hr.2 hk⟩
            have hnr9 := hF9
            obtain ⟨_, _, _, _, _, _, _, hRO9, _⟩ := hnr9
            have hnr9 := hRO9.short
            refine rh_v 11 rfl (by kernel_rfl) rfl rfl rfl hS92 (fun _ hS => ov_assign rfl rfl) ?_
            refine rh_done (by kernel_rfl) ?_
            refine run_inBlock ?_
            refine Run.use (ih39 (nr + 1) (ao5) (cap5) _ ?_ ?_) (And.intro rfl (And.intro rfl (And.intro rfl (And.intro rfl (And.intro rfl (And.intro rfl trivial))))))
            · first | omega | (dsimp only; omega)
            · exact ⟨g2, p, c5, rows ++ [c7], fun i i0 i1 => hgm i i0 (by omega) (hgk i i0 i1), hF9, hP9, (hO90.sub (.cons_cons _ (.cons_cons _ (.cons_cons _ (.cons_cons _ (.cons_cons _ (.cons _ (.refl _)))))))).perm perm_row⟩
      · have hgk1 : gone k = true := by simpa using h2
        refine run_exit rfl <| run_inBlock <| run_region <| rl_v rfl rfl rfl (ov_add rfl rfl rfl (by omega)) ?_
        refine rl_v rfl rfl rfl (ov_move rfl rfl) <| rl_nil ?_
        refine Run.use (ih37 (k + 1) (nr) (oa) (ocap) _ ?_ ?_) (And.intro (by exact slot_int rfl (by first | omega)) (And.intro rfl (And.intro rfl (And.intro rfl (And.intro rfl trivial)))))
        · first | omega | (dsimp only; omega)
        · exact ⟨gone, p, co, rows, by omega, by omega, fun i i0 i1 => by by_cases e : i = k; (rw [e]; exact hgk1); (exact hgk i i0 (by omega)), hF, hP, hO⟩
    · obtain ⟨o, t, Lr, R, rv, ch, hTS, hRO, hro, hrows, hch⟩ := hF
      have hnr := hRO.short
      have hOf : Own w.heap.size w w36 (co :: ((List.range nr).map ch ++ (some (lch b1 98 [.slice ga n gc]) :: M))) := by
        rw [← hrows]; exact hO.tail.tail.tail.tail
      have hgall : ∀ i : Int, 0 ≤ i → i < W.n → gone i = true := fun i i0 i1 => hgk i i0 (by omega)
      refine run_exit rfl <| run_seq <| run_region <| rl_v rfl rfl rfl (ov_move rfl rfl) ?_
      refine rl_call callable_124 rfl rfl rfl rfl rfl rfl (hSort w.heap.size w _ oa nr ocap Lr R rv ch co _ (by omega) (fun r r0 r1 => ⟨hRO.pos r r0 r1, by have := (hRO.rng r 0 r0 r1 (Int.le_refl _) (by have := hRO.pos r r0 r1; omega)).1; omega⟩) (fun r s r0 r1 s0 s1 e => (hRO.dis r 0 s 0 r0 r1 (Int.le_refl _) (by have := hRO.pos r r0 r1; omega) s0 s1 (Int.le_refl _) (by have := hRO.pos s s0 s1; omega) e).1) hro hch hOf) (fun e93 w94 hp95 => ?_)
      obtain ⟨rfl, σ, co', hσr, hσi, hσs, hro', hO7⟩ := hp95
      refine ⟨_, rfl, ?_⟩
      have hROp := hRO.perm hσr hσi
      have hROt : RO W (fun _ => true) o nr (fun r => Lr (σ r)) (fun r => R (σ r)) := ⟨hROp.pos, fun r k r0 r1 k0 k1 => ⟨(hROp.rng r k r0 r1 k0 k1).1, rfl⟩, hROp.cyc, fun x x0 x1 _ => hROp.cov x x0 x1 (hgall x x0 x1), hROp.dis, hROp.min⟩
      have hRT := rown_of (H := co' :: ((List.range nr).map ch ++ (some (lch b1 98 [.slice ga n gc]) :: M))) 0 rfl hro' (T2 := 3) (L := fun r => Lr (σ r)) (F := fun r => R (σ r)) fun r r0 r1 => by
        have hs := hσr r r0 r1
        have h := hch (σ r).toNat (by omega)
        rw [show (((σ r).toNat : Nat) : Int) = σ r by omega] at h
        exact ⟨(σ r).toNat + 1, ch (σ r).toNat, by have : (σ r).toNat < nr := by omega
                                                   simp [List.getElem?_append, this], h⟩
      rw [hWd] at hTS hROt
      refine rl_nil <| run_seq <| run_region <| rl_v rfl rfl rfl (ov_move rfl rfl) <| rl_v rfl rfl rfl (ov_assign rfl rfl) <| rl_nil <| run_ret Tryz.func71 (res1 Tryz.results71 rfl) ?_
      exact ⟨oa, nr, ocap, _, _, o, t, _, rfl, hO7, hRT, hTS.cert (by rw [← hWd]; exact hgall), hROt, hσs⟩
end Go.Proofs.YtbepolognfdkeaaGreat
