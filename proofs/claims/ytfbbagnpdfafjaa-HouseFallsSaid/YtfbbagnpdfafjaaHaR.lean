import Derived.Test.YtfbbagnpdfafjaaHaE
import Derived.Test.YtfbbagnpdfafjaaRul
import Derived.Test.YtfbbagnpdfafjaaHaQ
set_option maxRecDepth 100000
namespace Go.Proofs.Ytfbbagnpdfafjaa
open Go.RowKit Go.Proofs
def Src (H : List (Option Blk)) (ao : Option Addr) (s m : Nat) (G : Int → List Value) : Prop := ∀ (B : Nat) (w0 w : World), Own B w0 w H → SAt w.heap.size w ao s m G
theorem Src.of_row {H : List (Option Blk)} {ao : Option Addr} {E : TypeId} {s n m cap k : Nat} {G : Int → List Value} {c : Option Blk} (h : SRow (.slice ao m cap) E s n G c) (hk : H[k]? = some c) : Src H ao s n G := by
 intro B w0 w ho
 rcases h with ⟨h1, rfl, _⟩ | ⟨b, cap', g, h1, h2, h3, rfl, h5⟩
 ·have := RAt.nil w.heap.size w ao (fun j => (G ((j / s : Nat) : Int)).getD (j % s) undef)
  rw [← Nat.zero_mul s] at this
  exact this
 ·cases h1
  exact ((ho.reads k hk (n * s) (Nat.mul_le_mul_right s h2)).congr (fun i hi => h5 i hi))
theorem IRow.addr {ao : Option Addr} {m cap : Nat} {E : TypeId} {n : Nat} {G : Int → Value} {c : Option Blk} (h : IRow (.slice ao m cap) E n G c) : ∃ b, (0 < n → ao = some ⟨b, 0, none⟩) := by
 rcases h with ⟨_, rfl, _⟩ | ⟨b, cap', g, h1, _⟩
 ·exact ⟨0, fun h => absurd h (Nat.lt_irrefl _)⟩
 ·cases h1; exact ⟨b, fun _ => rfl⟩
theorem ow_storeI1 {N : Nat} {o : Oper} {F : Fr} {w w0 : World} {B : Nat} {H : List (Option Blk)} {T E : TypeId} {p x : Operand} {b n cap : Nat} {G : Int → Value} {c : Option Blk} {ao : Option Addr} {i : Int} {v : Value} (hd : o.dst = none) (ho : o.op = .store T p x) (hi : (Try.prog.info? T).map (·.size) = some 1)
  (hO : Own B w0 w H) (kk : Nat) (hr : IRow (.slice ao n cap) E n G c) (hk : H[kk]? = some c) (hao : 0 < n → ao = some ⟨b, 0, none⟩) (hp : Fr.ev F p = some (.pointer (some ⟨b, 0 + i.toNat, none⟩))) (hb : 0 ≤ i ∧ i < n)
  (hx : Fr.ev F x = some v) (h1 : v.oneCell' = true) :
  OpW Try.prog N o F w (fun F' w' => ∃ c', F' = F ∧ Own B w0 w' (H.set kk c') ∧ IRow (.slice ao n cap) E n (upd G i v) c' ∧ w'.heap.size = w.heap.size) := by
 obtain ⟨b', G', e1, e2, e3, rfl, e5⟩ := hr.asV (by omega)
 have := (hao (by omega)).symm.trans e1
 simp only [Option.some.injEq, Addr.mk.injEq] at this
 obtain rfl := this.1
 refine (ow_store hd ho hi hO kk hk hp ⟨hb.1, by omega⟩ hx h1).mono fun F' w' ⟨q1, q2, q3⟩ => ⟨_, q1, q2, ?_, q3⟩
 rw [e1]
 refine IRow.ofV e2 e3 fun j j0 j1 => ?_
 by_cases e : j = i
 ·subst e; simp
 ·rw [upd_ne _ _ e, upd_ne _ _ e]; exact e5 j j0 j1
end Go.Proofs.Ytfbbagnpdfafjaa
set_option maxRecDepth 100000
namespace Go.Proofs.Ytfbbagnpdfafjaa
open Go.RowKit Go.Proofs
def HM.stP (X : HM) (s m : Int) : Int := if m < X.mo then max 1 (X.pr m + X.mv s m) else X.pr m
def HM.stC (X : HM) (s : Int) (a : HA) : Int := a.cash + sm (fun m => a.pos m * (X.stP s m - X.pr m)) 12
def HM.stA (X : HM) (s j : Int) : Int := max 0 (marF X.mv X.k X.rate (X.ac j).pos (X.stP s) - X.stC s (X.ac j))
def HM.hasS (X : HM) (s : Int) : Prop := 0 ≤ s ∧ s < X.k
instance (X : HM) (s : Int) : Decidable (X.hasS s) := by unfold HM.hasS; exact inferInstance
def HM.nos (X : HM) (s : Int) : Int := if X.hasS s then 0 else 4
theorem stP_rng {X : HM} (hG : HG X) {s m : Int} (hs : X.hasS s) (m0 : 0 ≤ m) (m1 : m < 12) : 0 ≤ X.stP s m ∧ X.stP s m ≤ 3000000 := by
 have h1 := hG.pr m m0 m1
 have h2 := hG.mv s hs.1 hs.2 m m0 m1
 unfold HM.stP
 split <;> omega
theorem SrcS.rd {H : List (Option Blk)} {gb go s m : Nat} {G : Int → List Value} (h : SrcS H (some ⟨gb, go, none⟩) s m G) (hs : 0 < s) {B : Nat} {w0 w : World} (hO : Own B w0 w H) {i : Int} (i0 : 0 ≤ i) (i1 : i < m) {fo : Nat} (hf : fo < s) : w.cell? ⟨gb, go + i.toNat * s + fo, none⟩ = some ((G i).getD fo undef) := by
 obtain ⟨b, off, e, h2⟩ := (h B w0 w hO).open hs
 have e1 := e (by omega)
 cases e1
 exact h2 w (Below.refl _ _) i i0 i1 fo hf
theorem stress_any (hb B : Nat) (X : HM) (s : Int) (Pl R : List (Option Blk)) (w0 w : World) (h : HAt B w0 w hb X Pl R) (hG : HG X) :
  Calls Try.prog 40 #[ptr hb, iv s] w fun e w' => ∃ v c, e = .returned (.tuple #[v, iv (X.nos s)]) ∧ IRow v 2 (if X.hasS s then X.mem else 0) (fun j => iv (X.stA s j)) c ∧ HAt B w0 w' hb X Pl (c :: R) := by
 obtain ⟨K, N, hO, hK, hPl⟩ := h
 have hmem := hG.mem
 have hmo := hG.mo
 have hk64 := hG.k
 refine calls_of_run (F := [(0, _), (1, _)]) Try.func40 rfl Try.ntmps40 rfl rfl <| run_seq <| run_region <| rl_v rfl rfl rfl (ov_assign rfl rfl) <| rl_v rfl rfl rfl (ov_assign rfl rfl) <| rl_nil <| run_seq <| run_seq <| run_region <| rl_v rfl rfl rfl (ov_move rfl rfl) <| rl_v rfl rfl rfl (ov_ptrnil rfl Try.underlying30 rfl) <| rl_nil <| run_cond_f rfl <| run_skip <| run_seq <| run_seq <| run_region <| rl_v rfl rfl rfl (ov_move rfl rfl) <| rl_v rfl rfl rfl (ov_lss rfl rfl rfl) <| rl_v rfl rfl rfl (ov_move rfl rfl) ?_
 first | refine rl_split_dec 18 rfl (fun g1 => ?_) (fun g1 => ?_) | refine rl_split 18 rfl (fun g1 => ?_) (fun g1 => ?_)
 ·refine rl_gskip rfl rfl rfl rfl rfl rfl <| rl_gskip rfl rfl rfl rfl rfl rfl <| rl_gskip rfl rfl rfl rfl rfl rfl <| rl_gskip rfl rfl rfl rfl rfl rfl <| rl_gskip rfl rfl rfl rfl rfl rfl <| rl_gskip rfl rfl rfl rfl rfl rfl <| rl_gskip rfl rfl rfl rfl rfl rfl <| rl_v rfl rfl rfl (ov_pick_t rfl rfl rfl) <| rl_nil <| run_cond_t rfl ?_
  have hm : ¬ X.hasS s := fun h => by have := h.1; omega
  refine run_seq <| run_region <| rl_v rfl rfl rfl (ov_assign rfl rfl) <| rl_v rfl rfl rfl (ov_assign rfl rfl) <| rl_nil <| run_ret Try.func40 (res2 Try.results40 rfl rfl) ?_
  exact ⟨_, none, by unfold HM.nos; rw [if_neg hm], by rw [if_neg hm]; exact IRow.nil _ _, HAt.push hO.nil_cons hK hPl⟩
 ·refine rl_gv rfl rfl rfl rfl rfl (ov_move rfl rfl) <| rl_gv rfl rfl rfl rfl rfl (ov_move rfl rfl) <| rl_gv rfl rfl rfl rfl rfl (ov_nil rfl rfl) <| rl_gv rfl rfl rfl rfl rfl (ov_fieldS rfl Try.underlying124 rfl (fo := 13) rfl (by kernel_rfl) rfl) ?_
  refine rl_gv rfl rfl rfl rfl rfl (ov_load rfl Try.underlying121 rfl rfl (by exact hO.cellL 0 rfl (off := 13) rfl)) ?_
  refine rl_gv rfl rfl rfl rfl rfl (ov_len rfl Try.underlying121 rfl) <| rl_gv rfl rfl rfl rfl rfl (ov_geq rfl rfl rfl) <| rl_v rfl rfl rfl (ov_pick_f rfl rfl rfl) <| rl_nil ?_
  first | refine run_cond_dec rfl (fun g2 => ?_) (fun g2 => ?_) | refine run_cond rfl (fun g2 => ?_) (fun g2 => ?_)
  ·have g2' : (X.k : Int) ≤ s := g2
   have hm : ¬ X.hasS s := fun h => by have := h.2; omega
   refine run_seq <| run_region <| rl_v rfl rfl rfl (ov_assign rfl rfl) <| rl_v rfl rfl rfl (ov_assign rfl rfl) <| rl_nil <| run_ret Try.func40 (res2 Try.results40 rfl rfl) ?_
   exact ⟨_, none, by unfold HM.nos; rw [if_neg hm], by rw [if_neg hm]; exact IRow.nil _ _, HAt.push hO.nil_cons hK hPl⟩
  ·have g2' : ¬ (X.k : Int) ≤ s := g2
   have hm : X.hasS s := ⟨by omega, by omega⟩
   have hmvs : Bd (X.mv s) 1000000 := hG.mv s hm.1 hm.2
   refine run_skip <| run_seq <| run_region <| rl_v rfl rfl rfl (ov_move rfl rfl) <| rl_v rfl rfl rfl (ov_nil rfl rfl) <| rl_v rfl rfl rfl (ov_fieldS rfl Try.underlying124 rfl (fo := 1) rfl (by kernel_rfl) rfl) ?_
   refine rl_v rfl rfl rfl (ov_loadN rfl Try.underlying118 rfl (by kernel_rfl) rfl (hO.rangeSub 0 1 rfl (X.r K).l_mon)) ?_
   refine rl_ow rfl (ow_allocA 12 rfl rfl rfl zero_118 rfl hO) ?_
   rintro _ w2 ⟨b6, rfl, hO3, hs4⟩
   refine rl_ow rfl (ow_storeA (G2 := fun j => iv (X.pr j)) rfl rfl (by kernel_rfl) hO3 0 rfl rfl rfl (fun _ => rfl)) ?_
   rintro _ w5 ⟨rfl, hO6, hs7⟩
   refine rl_nil <| run_seq <| run_seq <| run_region <| rl_v rfl rfl rfl (ov_move rfl rfl) <| rl_v rfl rfl rfl (ov_nil rfl rfl) <| rl_v rfl rfl rfl (ov_fieldS rfl Try.underlying124 rfl (fo := 0) rfl (by kernel_rfl) rfl) ?_
   refine rl_v rfl rfl rfl (ov_load rfl Try.underlying3 rfl rfl (by exact (show _ = some (iv X.mo) from hO6.cellL 1 rfl (off := 0) rfl))) ?_
   refine rl_v rfl rfl rfl (ov_move rfl rfl) <| rl_nil <| run_block <| Run.keep [0, 1, 6, 34, 35] (F' := [(0, _), (1, _), (6, _), (34, _), (35, _)]) rfl <| run_loop1 (fun (m : Int) => [(35, .int .i64 m)]) [0, 1, 6, 34] (fun (m : Int) (w8 : World) => (0 ≤ m ∧ m ≤ X.mo) ∧ Own B w0 w8 (some (vch b6 118 12 (fun j => iv (if j < m then X.stP s j else X.pr j))) :: houB hb (X.r K) :: K.blk :: (N ++ R))) (fun (m : Int) => (X.mo - m).toNat) (0) ?_ (And.intro (by exact slot_int rfl (by first | omega)) (And.intro rfl (And.intro rfl (And.intro rfl (And.intro rfl trivial))))) ?_
   ·exact ⟨by omega, hO6.congrI 0 rfl (fun i i0 i1 => by rw [if_neg (by omega)])⟩
   intro m w8 hIw8 ih9
   obtain ⟨hm2, hO1⟩ := hIw8
   show Run _ _ _ _ [(35, _), (0, _), (1, _), (6, _), (34, _)] _ _
   refine run_seq <| run_region <| rl_v rfl rfl rfl (ov_lss rfl rfl rfl) <| rl_nil <| run_seq ?_
   first | refine run_cond_dec rfl (fun h1 => ?_) (fun h1 => ?_) | refine run_cond rfl (fun h1 => ?_) (fun h1 => ?_)
   ·obtain ⟨gb, go, hga, hrow⟩ := (hK.mvs [some (vch b6 118 12 (fun j => iv (if j < m then X.stP s j else X.pr j))), houB hb (X.r K), K.blk] B w0 w8 hO1).open (by omega)
    have hpm := hG.pr m hm2.1 (by omega)
    have hmm := hmvs m hm2.1 (by omega)
    have hma : K.ma = some ⟨gb, go, none⟩ := hga (by omega)
    have hread : ∀ {w' : World}, Own B w0 w' (some (vch b6 118 12 (fun j => iv (if j < m then X.stP s j else X.pr j))) :: houB hb (X.r K) :: K.blk :: (N ++ R)) → w'.cell? ⟨gb, go + s.toNat * 12 + m.toNat, none⟩ = some (iv (X.mv s m)) := fun hO' => by
     have hsr := hK.mvs (R := R) [some (vch b6 118 12 (fun j => iv (if j < m then X.stP s j else X.pr j))), houB hb (X.r K), K.blk]
     rw [hma] at hsr
     rw [SrcS.rd hsr (by decide) hO' hm.1 hm.2 (fo := m.toNat) (by omega), List.getD_eq_getElem?_getD, monL_get _ hm2.1 (by omega)]
     rfl
    refine run_skip <| run_seq <| run_block <| run_seq <| run_region <| rl_v rfl rfl rfl (ov_move rfl rfl) <| rl_v rfl rfl rfl (ov_assign rfl rfl) <| rl_nil <| run_tail 16 mixed (by kernel_rfl) ?_
    have hO11 := hO1.drew
    generalize World.drew w8 = w10 at hO11 ⊢
    refine rt_v rfl rfl rfl (ov_move rfl rfl) <| rt_v rfl rfl rfl (ov_move rfl rfl) <| rt_v rfl rfl rfl (ov_indexA1 rfl Try.underlying118 (by kernel_rfl) rfl rfl ⟨by omega, by omega⟩) ?_
    refine rt_v rfl rfl rfl (ov_load rfl Try.underlying2 rfl rfl (by exact (hO11.cellI 0 rfl m hm2.1 (by omega)).trans (by rw [if_neg (by omega)]))) ?_
    refine rt_v rfl rfl rfl (ov_move rfl rfl) <| rt_v rfl rfl rfl (ov_nil rfl rfl) <| rt_v rfl rfl rfl (ov_fieldS rfl Try.underlying124 rfl (fo := 13) rfl (by kernel_rfl) rfl) ?_
    refine rt_v rfl rfl rfl (ov_load rfl Try.underlying121 rfl rfl (by exact hO11.cellL 1 rfl (off := 13) rfl)) ?_
    refine rt_v rfl rfl rfl (ov_move rfl rfl) <| rt_v rfl rfl rfl (ov_move rfl rfl) <| rt_v rfl rfl rfl (ov_index rfl Try.underlying121 (by kernel_rfl) (s := 12) rfl rfl ⟨hm.1, hm.2⟩ (by exact (hga (by omega)))) ?_
    refine rt_v rfl rfl rfl (ov_indexA1 rfl Try.underlying118 (by kernel_rfl) rfl rfl ⟨by omega, by omega⟩) ?_
    refine rt_v rfl rfl rfl (ov_load rfl Try.underlying2 rfl rfl (by exact hread hO11)) ?_
    refine rt_v rfl rfl rfl (ov_add rfl rfl rfl (by omega)) ?_
    refine rt_v rfl rfl rfl (ov_max rfl rfl rfl) <| rt_v rfl rfl rfl (ov_indexA1 rfl Try.underlying118 (by kernel_rfl) rfl rfl ⟨by omega, by omega⟩) ?_
    refine rt_nil <| rl_ow rfl (ow_storeI rfl rfl (by kernel_rfl) hO11 0 rfl rfl ⟨by omega, by omega⟩ rfl) ?_
    rintro _ w12 ⟨rfl, hO13, hs14⟩
    refine rl_nil <| run_inBlock <| run_region <| rl_v rfl rfl rfl (ov_add rfl rfl rfl (by omega)) ?_
    refine rl_v rfl rfl rfl (ov_move rfl rfl) <| rl_nil ?_
    refine Run.use (ih9 (m + 1) _ ?_ ?_) (And.intro (by exact slot_int rfl (by first | omega)) (And.intro rfl (And.intro rfl (And.intro rfl (And.intro rfl trivial)))))
    ·first | omega | (dsimp only; omega)
    ·exact ⟨by omega, hO13.congrI 0 rfl (fun i i0 i1 => by unfold upd; split; (rename_i e; rw [e, if_pos (by omega)]; unfold HM.stP; rw [if_pos h1]); (split; (show iv (if i < m then _ else _) = _; rw [if_pos (by omega)]); (show iv (if i < m then _ else _) = _; rw [if_neg (by omega)])))⟩
   ·obtain rfl : m = X.mo := by omega
    have hO2 := hO1.congrI 0 rfl (G' := fun j => iv (X.stP s j)) (fun i i0 i1 => by
     split
     ·rfl
     ·rename_i hge
      unfold HM.stP
      rw [if_neg hge])
    refine run_exit rfl <| run_seq <| run_region <| rl_v rfl rfl rfl (ov_assign rfl rfl) <| rl_nil <| run_seq <| run_seq <| run_region <| rl_v rfl rfl rfl (ov_move rfl rfl) <| rl_v rfl rfl rfl (ov_nil rfl rfl) <| rl_v rfl rfl rfl (ov_fieldS rfl Try.underlying124 rfl (fo := 17) rfl (by kernel_rfl) rfl) ?_
    refine rl_v rfl rfl rfl (ov_load rfl Try.underlying120 rfl rfl (by exact hO2.cellL 1 rfl (off := 17) rfl)) ?_
    refine rl_v rfl rfl rfl (ov_len rfl Try.underlying120 rfl) <| rl_v rfl rfl rfl (ov_move rfl rfl) <| rl_nil <| run_block <| Run.keep [0, 6, 8, 58, 59, 60] (F' := [(0, _), (6, _), (8, _), (58, _), (59, _), (60, _)]) rfl <| run_loop4 (fun (j : Int) (n : Nat) (v : Value) (c : Option Blk) => [(8, v), (60, .int .i64 j)]) [0, 6, 58, 59] (fun (j : Int) (n : Nat) (v : Value) (c : Option Blk) (w15 : World) => j = n ∧ n ≤ X.mem ∧ IRow v 2 n (fun j => iv (X.stA s j)) c ∧ Own B w0 w15 (c :: some (vch b6 118 12 (fun j => iv (X.stP s j))) :: houB hb (X.r K) :: K.blk :: (N ++ R))) (fun (j : Int) (n : Nat) (v : Value) (c : Option Blk) => X.mem - n) (0) (0) (.slice none 0 0) (none) ?_ (And.intro rfl (And.intro (by exact slot_int rfl (by first | omega)) (And.intro rfl (And.intro rfl (And.intro rfl (And.intro rfl trivial)))))) ?_
    ·exact ⟨rfl, by omega, IRow.nil _ _, hO2.nil_cons⟩
    intro j n v c w15 hIw15 ih16
    obtain ⟨hj, hn, hrw, hO3⟩ := hIw15
    show Run _ _ _ _ [(8, _), (60, _), (0, _), (6, _), (58, _), (59, _)] _ _
    refine run_seq <| run_region <| rl_v rfl rfl rfl (ov_lss rfl rfl rfl) <| rl_nil <| run_seq ?_
    first | refine run_cond_dec rfl (fun h2 => ?_) (fun h2 => ?_) | refine run_cond rfl (fun h2 => ?_) (fun h2 => ?_)
    ·have h2' : j < (X.mem : Int) := h2
     have hca := hG.cash j (by omega) h2'
     have hps : Bd (X.ac j).pos 1000000 := hG.pos j (by omega) h2'
     have hst : ∀ k : Int, 0 ≤ k → k ≤ 12 → -(k * ((3000000000000 : Nat) : Int)) ≤ sm (fun m => (X.ac j).pos m * (X.stP s m - X.pr m)) k ∧ sm (fun m => (X.ac j).pos m * (X.stP s m - X.pr m)) k ≤ k * ((3000000000000 : Nat) : Int) := fun k k0 k1 => sm_abs _ k0 fun m m0 m1 => by
      have e1 := hps m m0 (by omega)
      have e2 := stP_rng hG hm m0 (show m < 12 by omega)
      have e3 := hG.pr m m0 (by omega)
      exact mulAbs (A := 1000000) (B := 3000000) (by omega) (by omega)
     refine run_skip <| run_seq <| run_block <| run_seq <| run_region <| rl_v rfl rfl rfl (ov_index rfl Try.underlying120 (by kernel_rfl) (s := 15) rfl rfl ⟨by omega, h2'⟩ rfl) ?_
     refine rl_v rfl rfl rfl (ov_loadE rfl Try.underlying127 rfl (by kernel_rfl) rfl ⟨by omega, by omega⟩ rfl (hK.reads hO3 3 rfl)) ?_
     refine rl_ow rfl (ow_alloc _ rfl rfl rfl zero_127 rfl hO3) ?_
     rintro _ w17 ⟨b10, rfl, hO18, hs19⟩
     refine rl_ow rfl (ow_storeW rfl rfl (by kernel_rfl) hO18 0 rfl rfl (by rfl) rfl (by rfl)) ?_
     rintro _ w20 ⟨rfl, hO21, hs22⟩
     have hs0 : sm (fun m => (X.ac j).pos m * (X.stP s m - X.pr m)) 0 = 0 := rfl
     refine rl_nil <| run_seq <| run_region <| rl_v rfl rfl rfl (ov_fieldS rfl Try.underlying127 rfl (fo := 0) rfl (by kernel_rfl) rfl) ?_
     refine rl_v rfl rfl rfl (ov_load rfl Try.underlying2 rfl rfl (by exact (show _ = some (iv (X.ac j).cash) from hO21.cellL 0 rfl (off := 0) rfl))) ?_
     refine rl_v rfl rfl rfl (ov_assign rfl rfl) <| rl_nil <| run_seq <| run_seq <| run_region <| rl_v rfl rfl rfl (ov_fieldS rfl Try.underlying127 rfl (fo := 2) rfl (by kernel_rfl) rfl) ?_
     refine rl_v rfl rfl rfl (ov_loadN rfl Try.underlying118 rfl (by kernel_rfl) rfl (hO21.rangeSub 0 2 rfl (accL_mon (X.ac j)))) ?_
     refine rl_v rfl rfl rfl (ov_move rfl rfl) <| rl_nil <| run_block <| Run.keep [0, 6, 8, 10, 11, 58, 59, 60, 67, 68] (F' := [(0, _), (6, _), (8, _), (10, _), (11, _), (58, _), (59, _), (60, _), (67, _), (68, _)]) rfl <| run_loop1 (fun (m : Int) => [(11, .int .i64 ((X.ac j).cash + sm (fun m => (X.ac j).pos m * (X.stP s m - X.pr m)) m)), (68, .int .i64 m)]) [0, 6, 8, 10, 58, 59, 60, 67] (fun (m : Int) (w23 : World) => (0 ≤ m ∧ m ≤ 12) ∧ Own B w0 w23 (some (lch b10 127 (accL (X.ac j))) :: c :: some (vch b6 118 12 (fun j => iv (X.stP s j))) :: houB hb (X.r K) :: K.blk :: (N ++ R))) (fun (m : Int) => (12 - m).toNat) (0) ?_ (And.intro (by exact slot_int rfl (by first | omega)) (And.intro (by exact slot_int rfl (by first | omega)) (And.intro rfl (And.intro rfl (And.intro rfl (And.intro rfl (And.intro rfl (And.intro rfl (And.intro rfl (And.intro rfl trivial)))))))))) ?_
     ·exact ⟨by omega, hO21⟩
     intro m w23 hIw23 ih24
     obtain ⟨hm3, hO4⟩ := hIw23
     show Run _ _ _ _ [(11, _), (68, _), (0, _), (6, _), (8, _), (10, _), (58, _), (59, _), (60, _), (67, _)] _ _
     refine run_seq <| run_region <| rl_v rfl rfl rfl (ov_lss rfl rfl rfl) <| rl_nil <| run_seq ?_
     first | refine run_cond_dec rfl (fun h3 => ?_) (fun h3 => ?_) | refine run_cond rfl (fun h3 => ?_) (fun h3 => ?_)
     ·have hq := hst m hm3.1 hm3.2
      have e1 := hps m hm3.1 h3
      have e2 := stP_rng hG hm hm3.1 h3
      have e3 := hG.pr m hm3.1 h3
      have e4 := mulAbs (a := (X.ac j).pos m) (b := X.stP s m - X.pr m) (A := 1000000) (B := 3000000) (by omega) (by omega)
      have hsu := sm_succ (fun m => (X.ac j).pos m * (X.stP s m - X.pr m)) (k := m) hm3.1
      refine run_skip <| run_seq <| run_block <| run_seq <| run_region <| rl_v rfl rfl rfl (ov_move rfl rfl) <| rl_v rfl rfl rfl (ov_idx12 (g := (X.ac j).pos) rfl Try.underlying118 rfl rfl ⟨hm3.1, h3⟩) <| rl_v rfl rfl rfl (ov_assign rfl rfl) <| rl_v rfl rfl rfl (ov_assign rfl rfl) <| rl_nil <| run_quiet mixed (by kernel_rfl) ?_
      refine rq_v rfl rfl rfl (fun _ => ov_move rfl rfl) ?_
      refine rq_v rfl rfl rfl (fun _ => ov_move rfl rfl) ?_
      refine rq_v rfl rfl rfl (fun _ => ov_move rfl rfl) ?_
      refine rq_v rfl rfl rfl (fun _ => ov_indexA1 rfl Try.underlying118 (by kernel_rfl) rfl rfl ⟨by omega, by omega⟩) ?_
      refine rq_v rfl rfl rfl (fun _ => ov_load rfl Try.underlying2 rfl rfl (by show World.cell? w23 _ = _; first | exact hO4.cellI 2 rfl m hm3.1 h3)) ?_
      refine rq_v rfl rfl rfl (fun _ => ov_move rfl rfl) ?_
      refine rq_v rfl rfl rfl (fun _ => ov_move rfl rfl) ?_
      refine rq_v rfl rfl rfl (fun _ => ov_nil rfl rfl) ?_
      refine rq_v rfl rfl rfl (fun _ => ov_fieldS rfl Try.underlying124 rfl (fo := 1) rfl (by kernel_rfl) rfl) ?_
      refine rq_v rfl rfl rfl (fun _ => ov_indexA1 rfl Try.underlying118 (by kernel_rfl) rfl rfl ⟨by omega, by omega⟩) ?_
      refine rq_v rfl rfl rfl (fun _ => ov_load rfl Try.underlying2 rfl rfl (by show World.cell? w23 _ = _; first | exact (show _ = some (iv (X.pr m)) from hO4.cellL 3 rfl (off := 1 + m.toNat) ((X.r K).pr_at hm3.1 h3)))) ?_
      refine rq_v rfl rfl rfl (fun _ => ov_sub rfl rfl rfl (by omega)) ?_
      refine rq_v rfl rfl rfl (fun _ => ov_mul rfl rfl rfl (by omega)) ?_
      refine rq_v rfl rfl rfl (fun _ => ov_add rfl rfl rfl (by omega)) ?_
      refine rq_v rfl rfl rfl (fun _ => ov_assign rfl rfl) ?_
      refine rq_nil (fun n25 => ?_)
      have hO27 := hO4.drewN n25
      generalize World.drewN w23 n25 = w26 at hO27 ⊢
      refine run_inBlock <| run_region <| rl_v rfl rfl rfl (ov_add rfl rfl rfl (by omega)) ?_
      refine rl_v rfl rfl rfl (ov_move rfl rfl) <| rl_nil ?_
      refine Run.use (ih24 (m + 1) _ ?_ ?_) (And.intro (by exact slot_int rfl (by first | omega)) (And.intro (by exact slot_int rfl (by first | omega)) (And.intro rfl (And.intro rfl (And.intro rfl (And.intro rfl (And.intro rfl (And.intro rfl (And.intro rfl (And.intro rfl trivial))))))))))
      ·first | omega | (dsimp only; omega)
      ·exact ⟨by omega, hO27⟩
     ·obtain rfl : m = 12 := by omega
      have hq := hst 12 (by decide) (by decide)
      refine run_exit rfl <| run_region <| rl_v rfl rfl rfl (ov_move rfl rfl) <| rl_v rfl rfl rfl (ov_move rfl rfl) <| rl_v rfl rfl rfl (ov_fieldS rfl Try.underlying127 rfl (fo := 2) rfl (by kernel_rfl) rfl) ?_
      refine rl_v rfl rfl rfl (ov_loadN rfl Try.underlying118 rfl (by kernel_rfl) rfl (hO4.rangeSub 0 2 rfl (accL_mon (X.ac j)))) ?_
      refine rl_v rfl rfl rfl (ov_loadA rfl Try.underlying118 rfl (by kernel_rfl) rfl hO4 2 rfl) ?_
      refine rl_call callable_89 rfl rfl rfl rfl rfl rfl (margin_any hb B 3 (X.r K) X.mv (X.ac j).pos (X.stP s) _ w0 w23 hO4 rfl (hK.mvs [_, _, _, _, _]) (hG.bd K) (hps.mono (by decide)) ⟨fun m m0 m1 => stP_rng hG hm m0 m1⟩) (fun e28 w29 hp30 => ?_)
      obtain ⟨rfl, hO5⟩ := hp30
      refine ⟨_, rfl, ?_⟩
      have hmar : 0 ≤ marF X.mv X.k X.rate (X.ac j).pos (X.stP s) ∧ marF X.mv X.k X.rate (X.ac j).pos (X.stP s) ≤ 100000000000000 := marF_rng (hG.bd K) (hps.mono (show 1000000 ≤ 2000000 by decide)) (PBd.mk fun m m0 m1 => stP_rng hG hm m0 m1)
      have hO6 := hO5.tail
      refine rl_v rfl rfl rfl (ov_move rfl rfl) <| rl_v rfl rfl rfl (ov_sub rfl rfl rfl (by show _ ≤ marF X.mv X.k X.rate (X.ac j).pos (X.stP s) - ((X.ac j).cash + sm (fun m => (X.ac j).pos m * (X.stP s m - X.pr m)) 12) ∧ marF X.mv X.k X.rate (X.ac j).pos (X.stP s) - ((X.ac j).cash + sm (fun m => (X.ac j).pos m * (X.stP s m - X.pr m)) 12) ≤ _; omega)) ?_
      refine rl_v rfl rfl rfl (ov_max rfl rfl rfl) ?_
      refine rl_appI rfl rfl rfl rfl rfl rfl rfl rfl Try.underlying22 info_2 rfl hO6 0 hrw rfl rfl rfl ⟨by omega, by omega⟩ (fun v2 c2 w31 hO32 hr2 hs33 => ?_)
      refine rl_v rfl rfl rfl (ov_assign rfl rfl) <| rl_nil <| run_inBlock <| run_region <| rl_v rfl rfl rfl (ov_add rfl rfl rfl (by omega)) ?_
      refine rl_v rfl rfl rfl (ov_move rfl rfl) <| rl_nil ?_
      refine Run.use (ih16 (j + 1) (n + 1) (v2) (c2) _ ?_ ?_) (And.intro rfl (And.intro (by exact slot_int rfl (by first | omega)) (And.intro rfl (And.intro rfl (And.intro rfl (And.intro rfl trivial))))))
      ·first | omega | (dsimp only; omega)
      ·exact ⟨by omega, by omega, hr2.congr fun i i0 i1 => (by unfold upd; split; (rename_i e; rw [e, ← hj]; rfl); rfl), hO32⟩
    ·have h2' : ¬ j < (X.mem : Int) := h2
     obtain rfl : X.mem = n := by omega
     refine run_exit rfl <| run_seq <| run_region <| rl_v rfl rfl rfl (ov_move rfl rfl) <| rl_v rfl rfl rfl (ov_assign rfl rfl) <| rl_v rfl rfl rfl (ov_assign rfl rfl) <| rl_nil <| run_ret Try.func40 (res2 Try.results40 rfl rfl) ?_
     exact ⟨v, c, by unfold HM.nos; rw [if_pos hm], by rw [if_pos hm]; exact hrw, HAt.push (hO3.sub (.cons_cons _ (.cons _ (.refl _)))) hK hPl⟩
end Go.Proofs.Ytfbbagnpdfafjaa
