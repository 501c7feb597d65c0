import Derived.Test.YtlldeifbfpmbaaaGreatFlA
import Derived.Test.YtlldeifbfpmbaaaGreatFgC
set_option maxRecDepth 100000
namespace Go.Proofs.YtlldeifbfpmbaaaGreat
open Go.RowKit Go.Proofs Go.MapKept
theorem chkF_1 {f : Fair} {nq : Nat} (h : 64 < f.n ∨ 64 < f.m) : chkF f nq = 2 := if_pos h
theorem chkF_2 {f : Fair} {nq : Nat} (h : ¬ (64 < f.n ∨ 64 < f.m)) (h2 : nq ≠ f.m) : chkF f nq = 7 := (if_neg h).trans (if_pos h2)
theorem chkF_3 {f : Fair} {nq : Nat} (h : ¬ (64 < f.n ∨ 64 < f.m)) (h2 : ¬ nq ≠ f.m) (h3 : ∃ i : Int, 0 ≤ i ∧ i < nq ∧ BadQ (f.q i)) : chkF f nq = 1 := (if_neg h).trans ((if_neg h2).trans (if_pos h3))
theorem chkF_4 {f : Fair} {nq : Nat} (h : ¬ (64 < f.n ∨ 64 < f.m)) (h2 : ¬ nq ≠ f.m) (h3 : ¬ ∃ i : Int, 0 ≤ i ∧ i < nq ∧ BadQ (f.q i)) (h4 : ¬ Lists f) : chkF f nq = 50 := (if_neg h).trans ((if_neg h2).trans ((if_neg h3).trans (if_pos h4)))
theorem chkF_5 {f : Fair} {nq : Nat} (h : ¬ (64 < f.n ∨ 64 < f.m)) (h2 : ¬ nq ≠ f.m) (h3 : ¬ ∃ i : Int, 0 ≤ i ∧ i < nq ∧ BadQ (f.q i)) (h4 : Lists f) : chkF f nq = 0 := (if_neg h).trans ((if_neg h2).trans ((if_neg h3).trans (if_neg fun h => h h4)))
set_option maxHeartbeats 2000000 in
theorem refCheck5_any (ga ba qa : Option Addr) (gc bc qc nq : Nat) (f : Fair) (w : World) (hlg : Lg5 f nq) (hF : FAg w.heap.size w ga ba qa f nq) :
  Calls Tryz.prog 22 #[.agg #[.slice ga f.n gc, .slice ba f.m bc, .slice qa nq qc]] w fun e w' => e = .returned (iv (chkF f nq)) ∧ Below w.heap.size w w' := by
 have hn := hlg.n
 have hm := hlg.m
 have hnq := hlg.q
 obtain ⟨A, C, RB, RO, gb, go, hga, hrow, hra, hel, hcan⟩ := hF.g.open
 obtain ⟨A', C', RB', RO', gb', go', hga', hrow', hra', hel', hcan'⟩ := hF.b.open
 obtain ⟨qb, qo, hqa, hqrow⟩ := hF.q.open
 refine calls_of_run (F := [(0, _)]) Tryz.func22 rfl Tryz.ntmps22 rfl rfl ?_
 have hO0 := Own.init w
 refine run_seq <| run_region <| rl_ow rfl (ow_box _ rfl rfl rfl rfl rfl hO0) ?_
 rintro _ w1 ⟨b1, rfl, hO2, hs3⟩
 refine rl_v rfl rfl rfl (ov_assign rfl rfl) <| rl_nil <| run_seq <| run_seq <| run_region_join 15 (.bool (decide (64 < f.n ∨ 64 < f.m))) [1] (fun hk4 => ?_) ?_
 ·refine rl_v rfl rfl rfl (ov_fieldS rfl Tryz.underlying25 rfl (fo := 0) rfl (by kernel_rfl) rfl) ?_
  refine rl_v rfl rfl rfl (ov_load rfl Tryz.underlying22 rfl rfl (by exact hO2.cellL 0 rfl (off := 0) rfl)) ?_
  refine rl_v rfl rfl rfl (ov_len rfl Tryz.underlying22 rfl) <| rl_v rfl rfl rfl (ov_gtr rfl rfl rfl) <| rl_v rfl rfl rfl (ov_move rfl rfl) ?_
  first | refine rl_split_dec 10 rfl (fun hg5 => ?_) (fun hg5 => ?_) | refine rl_split 10 rfl (fun hg5 => ?_) (fun hg5 => ?_)
  ·refine rl_gskip rfl rfl rfl rfl rfl rfl <| rl_gskip rfl rfl rfl rfl rfl rfl <| rl_gskip rfl rfl rfl rfl rfl rfl <| rl_gskip rfl rfl rfl rfl rfl rfl <| rl_v rfl rfl rfl (ov_pick_t rfl rfl rfl) ?_
   refine rl_nil (hk4 _ (jbt rfl (by omega)) (And.intro rfl trivial))
  ·refine rl_gv rfl rfl rfl rfl rfl (ov_fieldS rfl Tryz.underlying25 rfl (fo := 1) rfl (by kernel_rfl) rfl) ?_
   refine rl_gv rfl rfl rfl rfl rfl (ov_load rfl Tryz.underlying22 rfl rfl (by exact hO2.cellL 0 rfl (off := 1) rfl)) ?_
   refine rl_gv rfl rfl rfl rfl rfl (ov_len rfl Tryz.underlying22 rfl) <| rl_gv rfl rfl rfl rfl rfl (ov_gtr rfl rfl rfl) <| rl_v rfl rfl rfl (ov_pick_f rfl rfl rfl) ?_
   refine rl_nil (hk4 _ (jbd rfl (by omega)) (And.intro rfl trivial))
 ·show Run _ _ _ _ [(15, _), (1, _)] _ _
  first | refine run_cond_dec rfl (fun h1 => ?_) (fun h1 => ?_) | refine run_cond rfl (fun h1 => ?_) (fun h1 => ?_)
  ·refine run_seq <| run_region <| rl_v rfl rfl rfl (ov_assign rfl rfl) <| rl_nil <| run_ret Tryz.func22 (res1 Tryz.results22 rfl) ?_
   exact ⟨by rw [chkF_1 h1], hO2.tail.below⟩
  ·refine run_skip <| run_seq <| run_seq <| run_region <| rl_v rfl rfl rfl (ov_fieldS rfl Tryz.underlying25 rfl (fo := 2) rfl (by kernel_rfl) rfl) ?_
   refine rl_v rfl rfl rfl (ov_load rfl Tryz.underlying23 rfl rfl (by exact hO2.cellL 0 rfl (off := 2) rfl)) ?_
   refine rl_v rfl rfl rfl (ov_len rfl Tryz.underlying23 rfl) <| rl_v rfl rfl rfl (ov_fieldS rfl Tryz.underlying25 rfl (fo := 1) rfl (by kernel_rfl) rfl) ?_
   refine rl_v rfl rfl rfl (ov_load rfl Tryz.underlying22 rfl rfl (by exact hO2.cellL 0 rfl (off := 1) rfl)) ?_
   refine rl_v rfl rfl rfl (ov_len rfl Tryz.underlying22 rfl) <| rl_v rfl rfl rfl (ov_neq rfl rfl rfl) <| rl_nil ?_
   first | refine run_cond_dec rfl (fun h2 => ?_) (fun h2 => ?_) | refine run_cond rfl (fun h2 => ?_) (fun h2 => ?_)
   ·refine run_seq <| run_region <| rl_v rfl rfl rfl (ov_assign rfl rfl) <| rl_nil <| run_ret Tryz.func22 (res1 Tryz.results22 rfl) ?_
    exact ⟨by rw [chkF_2 h1 (by omega)], hO2.tail.below⟩
   ·have h2' : ¬ nq ≠ f.m := by omega
    refine run_skip <| run_seq <| run_seq <| run_region <| rl_v rfl rfl rfl (ov_assign rfl rfl) <| rl_nil <| run_block <| Run.keep [1, 3] (F' := [(1, _), (3, _)]) rfl <| run_loop1 (fun (i : Int) => [(3, .int .i64 i)]) [1] (fun (i : Int) (w6 : World) => 0 ≤ i ∧ i ≤ nq ∧ (∀ k : Int, 0 ≤ k → k < i → ¬ BadQ (f.q k)) ∧ Own w.heap.size w w6 [some (lch b1 25 [.slice ga f.n gc, .slice ba f.m bc, .slice qa nq qc])]) (fun (i : Int) => ((nq : Int) - i).toNat) (0) ?_ (And.intro (by exact slot_int rfl (by first | omega)) (And.intro rfl trivial)) ?_
    ·exact ⟨by omega, by omega, fun k k0 k1 => by omega, hO2⟩
    intro i w6 hIw6 ih7
    obtain ⟨hi0, hi1, hall, hO⟩ := hIw6
    show Run _ _ _ _ [(3, _), (1, _)] _ _
    refine run_seq <| run_seq <| run_region <| rl_v rfl rfl rfl (ov_move rfl rfl) <| rl_v rfl rfl rfl (ov_fieldS rfl Tryz.underlying25 rfl (fo := 2) rfl (by kernel_rfl) rfl) ?_
    refine rl_v rfl rfl rfl (ov_load rfl Tryz.underlying23 rfl rfl (by exact hO.cellL 0 rfl (off := 2) rfl)) ?_
    refine rl_v rfl rfl rfl (ov_len rfl Tryz.underlying23 rfl) <| rl_v rfl rfl rfl (ov_lss rfl rfl rfl) <| rl_nil ?_
    first | refine run_cond_dec rfl (fun h3 => ?_) (fun h3 => ?_) | refine run_cond rfl (fun h3 => ?_) (fun h3 => ?_)
    ·refine run_skip <| run_seq <| run_block <| run_seq <| run_region_join 43 (.bool (decide (f.q i < 0 ∨ 64 < f.q i))) [1, 3] (fun hk8 => ?_) ?_
     ·refine rl_v rfl rfl rfl (ov_fieldS rfl Tryz.underlying25 rfl (fo := 2) rfl (by kernel_rfl) rfl) ?_
      refine rl_v rfl rfl rfl (ov_load rfl Tryz.underlying23 rfl rfl (by exact hO.cellL 0 rfl (off := 2) rfl)) ?_
      refine rl_v rfl rfl rfl (ov_move rfl rfl) <| rl_v rfl rfl rfl (ov_index1 rfl Tryz.underlying23 (by kernel_rfl) rfl rfl ⟨by omega, by omega⟩ (by exact hqa (by omega))) ?_
      refine rl_v rfl rfl rfl (ov_load rfl Tryz.underlying3 rfl rfl (by exact hqrow _ hO.below _ (by omega) (by omega))) ?_
      refine rl_v rfl rfl rfl (ov_lss rfl rfl rfl) <| rl_v rfl rfl rfl (ov_move rfl rfl) ?_
      first | refine rl_split_dec 36 rfl (fun hg9 => ?_) (fun hg9 => ?_) | refine rl_split 36 rfl (fun hg9 => ?_) (fun hg9 => ?_)
      ·refine rl_gskip rfl rfl rfl rfl rfl rfl <| rl_gskip rfl rfl rfl rfl rfl rfl <| rl_gskip rfl rfl rfl rfl rfl rfl <| rl_gskip rfl rfl rfl rfl rfl rfl <| rl_gskip rfl rfl rfl rfl rfl rfl <| rl_gskip rfl rfl rfl rfl rfl rfl <| rl_v rfl rfl rfl (ov_pick_t rfl rfl rfl) ?_
       refine rl_nil (hk8 _ (jbt rfl (by omega)) (And.intro rfl (And.intro rfl trivial)))
      ·refine rl_gv rfl rfl rfl rfl rfl (ov_fieldS rfl Tryz.underlying25 rfl (fo := 2) rfl (by kernel_rfl) rfl) ?_
       refine rl_gv rfl rfl rfl rfl rfl (ov_load rfl Tryz.underlying23 rfl rfl (by exact hO.cellL 0 rfl (off := 2) rfl)) ?_
       refine rl_gv rfl rfl rfl rfl rfl (ov_move rfl rfl) <| rl_gv rfl rfl rfl rfl rfl (ov_index1 rfl Tryz.underlying23 (by kernel_rfl) rfl rfl ⟨by omega, by omega⟩ (by exact hqa (by omega))) ?_
       refine rl_gv rfl rfl rfl rfl rfl (ov_load rfl Tryz.underlying3 rfl rfl (by exact hqrow _ hO.below _ (by omega) (by omega))) ?_
       refine rl_gv rfl rfl rfl rfl rfl (ov_gtr rfl rfl rfl) <| rl_v rfl rfl rfl (ov_pick_f rfl rfl rfl) ?_
       refine rl_nil (hk8 _ (jbd rfl (by omega)) (And.intro rfl (And.intro rfl trivial)))
     ·show Run _ _ _ _ [(43, _), (1, _), (3, _)] _ _
      first | refine run_cond_dec rfl (fun h4 => ?_) (fun h4 => ?_) | refine run_cond rfl (fun h4 => ?_) (fun h4 => ?_)
      ·refine run_seq <| run_region <| rl_v rfl rfl rfl (ov_assign rfl rfl) <| rl_nil <| run_ret Tryz.func22 (res1 Tryz.results22 rfl) ?_
       exact ⟨by rw [chkF_3 h1 h2' ⟨i, hi0, h3, h4⟩], hO.tail.below⟩
      ·refine run_skip <| run_inBlock <| run_region <| rl_v rfl rfl rfl (ov_move rfl rfl) <| rl_v rfl rfl rfl (ov_add rfl rfl rfl (by omega)) ?_
       refine rl_v rfl rfl rfl (ov_assign rfl rfl) <| rl_nil ?_
       refine Run.use (ih7 (i + 1) _ ?_ ?_) (And.intro (by exact slot_int rfl (by first | omega)) (And.intro rfl trivial))
       ·first | omega | (dsimp only; omega)
       ·exact ⟨by omega, by omega, fun k k0 k1 => by by_cases e : k = i; (rw [e]; exact h4); (exact hall k k0 (by omega)), hO⟩
    ·have hq : ¬ ∃ i : Int, 0 ≤ i ∧ i < nq ∧ BadQ (f.q i) := fun ⟨k, k0, k1, hb⟩ => hall k k0 (by omega) hb
     refine run_exit rfl <| run_seq <| run_seq <| run_region <| rl_v rfl rfl rfl (ov_assign rfl rfl) <| rl_nil <| run_block <| Run.keep [1, 4] (F' := [(1, _), (4, _)]) rfl <| run_loop1 (fun (i : Int) => [(4, .int .i64 i)]) [1] (fun (i : Int) (w10 : World) => 0 ≤ i ∧ i ≤ f.n ∧ (∀ k : Int, 0 ≤ k → k < i → IsL (f.gl k) (f.ge k) f.m) ∧ Own w.heap.size w w10 [some (lch b1 25 [.slice ga f.n gc, .slice ba f.m bc, .slice qa nq qc])]) (fun (i : Int) => ((f.n : Int) - i).toNat) (0) ?_ (And.intro (by exact slot_int rfl (by first | omega)) (And.intro rfl trivial)) ?_
     ·exact ⟨by omega, by omega, fun k k0 k1 => by omega, hO⟩
     intro i w10 hIw10 ih11
     obtain ⟨hi0, hi1, hg, hO⟩ := hIw10
     show Run _ _ _ _ [(4, _), (1, _)] _ _
     refine run_seq <| run_seq <| run_region <| rl_v rfl rfl rfl (ov_move rfl rfl) <| rl_v rfl rfl rfl (ov_fieldS rfl Tryz.underlying25 rfl (fo := 0) rfl (by kernel_rfl) rfl) ?_
     refine rl_v rfl rfl rfl (ov_load rfl Tryz.underlying22 rfl rfl (by exact hO.cellL 0 rfl (off := 0) rfl)) ?_
     refine rl_v rfl rfl rfl (ov_len rfl Tryz.underlying22 rfl) <| rl_v rfl rfl rfl (ov_lss rfl rfl rfl) <| rl_nil ?_
     first | refine run_cond_dec rfl (fun h5 => ?_) (fun h5 => ?_) | refine run_cond rfl (fun h5 => ?_) (fun h5 => ?_)
     ·refine run_skip <| run_seq <| run_block <| run_seq <| run_class (Cl5 w.heap.size w [some (lch b1 25 [.slice ga f.n gc, .slice ba f.m bc, .slice qa nq qc])]) (⟨hO.drew⟩) mixed (by kernel_rfl) ?_
      refine rk_v rfl rfl rfl (fun wq hQ => ov_fieldS rfl Tryz.underlying25 rfl (fo := 0) rfl (by kernel_rfl) rfl) ?_
      refine rk_v rfl rfl rfl (fun wq hQ => ov_load rfl Tryz.underlying22 rfl rfl (by exact (hQ.own).cellL 0 rfl (off := 0) rfl)) ?_
      refine rk_v rfl rfl rfl (fun wq hQ => ov_move rfl rfl) ?_
      refine rk_v rfl rfl rfl (fun wq hQ => ov_index1 rfl Tryz.underlying22 (by kernel_rfl) rfl rfl ⟨by omega, by omega⟩ (by exact hga (by omega))) ?_
      refine rk_v rfl rfl rfl (fun wq hQ => ov_load rfl Tryz.underlying23 rfl rfl (by exact hrow _ (hQ.own).below _ (by omega) (by omega))) ?_
      refine rk_v rfl rfl rfl (fun wq hQ => ov_fieldS rfl Tryz.underlying25 rfl (fo := 1) rfl (by kernel_rfl) rfl) ?_
      refine rk_v rfl rfl rfl (fun wq hQ => ov_load rfl Tryz.underlying22 rfl rfl (by exact (hQ.own).cellL 0 rfl (off := 1) rfl)) ?_
      refine rk_v rfl rfl rfl (fun wq hQ => ov_len rfl Tryz.underlying22 rfl) ?_
      refine rk_call callable_48 rfl rfl rfl rfl rfl rfl (fun wq hQ => (callsDB (refRight_any (A i) (f.gl i) (C i) f.m (f.ge i) _ (hlg.gl i hi0 h5) ((hQ.own).iatF (hcan i hi0 h5)))).mono fun _ _ h => ⟨h.1, ⟨(hQ.own).past h.2⟩⟩) ?_
      refine rk_v rfl rfl rfl (fun wq hQ => ov_not rfl rfl) ?_
      refine rk_nil (fun w15 hQ => ?_)
      first | refine run_cond_dec rfl (fun h6 => ?_) (fun h6 => ?_) | refine run_cond rfl (fun h6 => ?_) (fun h6 => ?_)
      ·have hng : ¬ Lists f := fun h => by have := dB_iff.2 (h.1 i hi0 h5); rw [this] at h6; exact Bool.noConfusion h6
       refine run_seq <| run_region <| rl_v rfl rfl rfl (ov_assign rfl rfl) <| rl_nil <| run_ret Tryz.func22 (res1 Tryz.results22 rfl) ?_
       exact ⟨by rw [chkF_4 h1 h2' hq hng], (hQ.own).tail.below⟩
      ·have hi : IsL (f.gl i) (f.ge i) f.m := dB_iff.1 (by revert h6; cases dB (IsL (f.gl i) (f.ge i) f.m) <;> simp)
       refine run_skip <| run_inBlock <| run_region <| rl_v rfl rfl rfl (ov_move rfl rfl) <| rl_v rfl rfl rfl (ov_add rfl rfl rfl (by omega)) ?_
       refine rl_v rfl rfl rfl (ov_assign rfl rfl) <| rl_nil ?_
       refine Run.use (ih11 (i + 1) _ ?_ ?_) (And.intro (by exact slot_int rfl (by first | omega)) (And.intro rfl trivial))
       ·first | omega | (dsimp only; omega)
       ·exact ⟨by omega, by omega, fun r r0 r1 => by by_cases e : r = i; (rw [e]; exact hi); (exact hg r r0 (by omega)), (hQ.own)⟩
     ·refine run_exit rfl <| run_seq <| run_seq <| run_region <| rl_v rfl rfl rfl (ov_assign rfl rfl) <| rl_nil <| run_block <| Run.keep [1, 5] (F' := [(1, _), (5, _)]) rfl <| run_loop1 (fun (i : Int) => [(5, .int .i64 i)]) [1] (fun (i : Int) (w16 : World) => 0 ≤ i ∧ i ≤ f.m ∧ (∀ k : Int, 0 ≤ k → k < i → IsL (f.bl k) (f.be k) f.n) ∧ Own w.heap.size w w16 [some (lch b1 25 [.slice ga f.n gc, .slice ba f.m bc, .slice qa nq qc])]) (fun (i : Int) => ((f.m : Int) - i).toNat) (0) ?_ (And.intro (by exact slot_int rfl (by first | omega)) (And.intro rfl trivial)) ?_
      ·exact ⟨by omega, by omega, fun k k0 k1 => by omega, hO⟩
      intro i w16 hIw16 ih17
      obtain ⟨hi0, hi1, hb, hO⟩ := hIw16
      show Run _ _ _ _ [(5, _), (1, _)] _ _
      refine run_seq <| run_seq <| run_region <| rl_v rfl rfl rfl (ov_move rfl rfl) <| rl_v rfl rfl rfl (ov_fieldS rfl Tryz.underlying25 rfl (fo := 1) rfl (by kernel_rfl) rfl) ?_
      refine rl_v rfl rfl rfl (ov_load rfl Tryz.underlying22 rfl rfl (by exact hO.cellL 0 rfl (off := 1) rfl)) ?_
      refine rl_v rfl rfl rfl (ov_len rfl Tryz.underlying22 rfl) <| rl_v rfl rfl rfl (ov_lss rfl rfl rfl) <| rl_nil ?_
      first | refine run_cond_dec rfl (fun h7 => ?_) (fun h7 => ?_) | refine run_cond rfl (fun h7 => ?_) (fun h7 => ?_)
      ·refine run_skip <| run_seq <| run_block <| run_seq <| run_class (Cl5 w.heap.size w [some (lch b1 25 [.slice ga f.n gc, .slice ba f.m bc, .slice qa nq qc])]) (⟨hO.drew⟩) mixed (by kernel_rfl) ?_
       refine rk_v rfl rfl rfl (fun wq hQ => ov_fieldS rfl Tryz.underlying25 rfl (fo := 1) rfl (by kernel_rfl) rfl) ?_
       refine rk_v rfl rfl rfl (fun wq hQ => ov_load rfl Tryz.underlying22 rfl rfl (by exact (hQ.own).cellL 0 rfl (off := 1) rfl)) ?_
       refine rk_v rfl rfl rfl (fun wq hQ => ov_move rfl rfl) ?_
       refine rk_v rfl rfl rfl (fun wq hQ => ov_index1 rfl Tryz.underlying22 (by kernel_rfl) rfl rfl ⟨by omega, by omega⟩ (by exact hga' (by omega))) ?_
       refine rk_v rfl rfl rfl (fun wq hQ => ov_load rfl Tryz.underlying23 rfl rfl (by exact hrow' _ (hQ.own).below _ (by omega) (by omega))) ?_
       refine rk_v rfl rfl rfl (fun wq hQ => ov_fieldS rfl Tryz.underlying25 rfl (fo := 0) rfl (by kernel_rfl) rfl) ?_
       refine rk_v rfl rfl rfl (fun wq hQ => ov_load rfl Tryz.underlying22 rfl rfl (by exact (hQ.own).cellL 0 rfl (off := 0) rfl)) ?_
       refine rk_v rfl rfl rfl (fun wq hQ => ov_len rfl Tryz.underlying22 rfl) ?_
       refine rk_call callable_48 rfl rfl rfl rfl rfl rfl (fun wq hQ => (callsDB (refRight_any (A' i) (f.bl i) (C' i) f.n (f.be i) _ (hlg.bl i hi0 h7) ((hQ.own).iatF (hcan' i hi0 h7)))).mono fun _ _ h => ⟨h.1, ⟨(hQ.own).past h.2⟩⟩) ?_
       refine rk_v rfl rfl rfl (fun wq hQ => ov_not rfl rfl) ?_
       refine rk_nil (fun w21 hQ => ?_)
       first | refine run_cond_dec rfl (fun h8 => ?_) (fun h8 => ?_) | refine run_cond rfl (fun h8 => ?_) (fun h8 => ?_)
       ·have hng : ¬ Lists f := fun h => by have := dB_iff.2 (h.2 i hi0 h7); rw [this] at h8; exact Bool.noConfusion h8
        refine run_seq <| run_region <| rl_v rfl rfl rfl (ov_assign rfl rfl) <| rl_nil <| run_ret Tryz.func22 (res1 Tryz.results22 rfl) ?_
        exact ⟨by rw [chkF_4 h1 h2' hq hng], (hQ.own).tail.below⟩
       ·have hi : IsL (f.bl i) (f.be i) f.n := dB_iff.1 (by revert h8; cases dB (IsL (f.bl i) (f.be i) f.n) <;> simp)
        refine run_skip <| run_inBlock <| run_region <| rl_v rfl rfl rfl (ov_move rfl rfl) <| rl_v rfl rfl rfl (ov_add rfl rfl rfl (by omega)) ?_
        refine rl_v rfl rfl rfl (ov_assign rfl rfl) <| rl_nil ?_
        refine Run.use (ih17 (i + 1) _ ?_ ?_) (And.intro (by exact slot_int rfl (by first | omega)) (And.intro rfl trivial))
        ·first | omega | (dsimp only; omega)
        ·exact ⟨by omega, by omega, fun r r0 r1 => by by_cases e : r = i; (rw [e]; exact hi); (exact hb r r0 (by omega)), (hQ.own)⟩
      ·refine run_exit rfl <| run_seq <| run_region <| rl_v rfl rfl rfl (ov_assign rfl rfl) <| rl_nil <| run_ret Tryz.func22 (res1 Tryz.results22 rfl) ?_
       exact ⟨by rw [chkF_5 h1 h2' hq ⟨fun g g0 g1 => hg g g0 (by omega), fun b b0 b1 => hb b b0 (by omega)⟩], hO.tail.below⟩
section
variable (ga ba qa aa xa : Option Addr) (gc bc qc nq an ac xn xc : Nat) (f : Fair) (w : World) (hlg : Lg5 f nq) (hF : FAg w.heap.size w ga ba qa f nq) (hE : chkF f nq ≠ 0)
include hlg hF hE
theorem growersBad_any : Calls Tryz.prog 11 #[.agg #[.slice ga f.n gc, .slice ba f.m bc, .slice qa nq qc]] w fun e w' => e = .returned (.tuple #[.slice none 0 0, iv (chkF f nq)]) ∧ Below w.heap.size w w' := by
 refine calls_of_run (F := [(0, _)]) Tryz.func11 rfl Tryz.ntmps11 rfl rfl ?_
 have hO0 := Own.init w
 refine run_seq <| run_region <| rl_ow rfl (ow_box _ rfl rfl rfl rfl rfl hO0) ?_
 rintro _ w1 ⟨b1, rfl, hO2, hs3⟩
 refine rl_v rfl rfl rfl (ov_assign rfl rfl) <| rl_v rfl rfl rfl (ov_assign rfl rfl) <| rl_nil <| run_seq <| run_seq <| run_region <| rl_v rfl rfl rfl (ov_loadW rfl Tryz.underlying27 rfl (by kernel_rfl) rfl hO2 0 rfl) ?_
 refine rl_call callable_23 rfl rfl rfl rfl rfl rfl (check5_any ga ba qa gc bc qc nq f _ hlg.n hlg.m hlg.q hlg.gl hlg.bl (hO2.fag hF)) (fun e4 w5 hp6 => ?_)
 obtain ⟨rfl, hbl⟩ := hp6
 refine ⟨_, rfl, ?_⟩
 have hO7 := hO2.past hbl
 refine rl_v rfl rfl rfl (ov_assign rfl rfl) <| rl_nil <| run_seq <| run_region <| rl_v rfl rfl rfl (ov_move rfl rfl) <| rl_v rfl rfl rfl (ov_neq rfl rfl rfl) <| rl_nil ?_
 first | refine run_cond_dec rfl (fun h1 => ?_) (fun h1 => ?_) | refine run_cond rfl (fun h1 => ?_) (fun h1 => ?_)
 ·refine run_seq <| run_region <| rl_v rfl rfl rfl (ov_move rfl rfl) <| rl_v rfl rfl rfl (ov_assign rfl rfl) <| rl_v rfl rfl rfl (ov_assign rfl rfl) <| rl_nil <| run_ret Tryz.func11 (res2 Tryz.results11 rfl rfl) ?_
  exact ⟨rfl, hO7.below⟩
 ·exfalso; exact h1 hE
theorem brewersBad_any : Calls Tryz.prog 12 #[.agg #[.slice ga f.n gc, .slice ba f.m bc, .slice qa nq qc]] w fun e w' => e = .returned (.tuple #[.slice none 0 0, iv (chkF f nq)]) ∧ Below w.heap.size w w' := by
 refine calls_of_run (F := [(0, _)]) Tryz.func12 rfl Tryz.ntmps12 rfl rfl ?_
 have hO0 := Own.init w
 refine run_seq <| run_region <| rl_ow rfl (ow_box _ rfl rfl rfl rfl rfl hO0) ?_
 rintro _ w1 ⟨b1, rfl, hO2, hs3⟩
 refine rl_v rfl rfl rfl (ov_assign rfl rfl) <| rl_v rfl rfl rfl (ov_assign rfl rfl) <| rl_nil <| run_seq <| run_seq <| run_region <| rl_v rfl rfl rfl (ov_loadW rfl Tryz.underlying27 rfl (by kernel_rfl) rfl hO2 0 rfl) ?_
 refine rl_call callable_23 rfl rfl rfl rfl rfl rfl (check5_any ga ba qa gc bc qc nq f _ hlg.n hlg.m hlg.q hlg.gl hlg.bl (hO2.fag hF)) (fun e4 w5 hp6 => ?_)
 obtain ⟨rfl, hbl⟩ := hp6
 refine ⟨_, rfl, ?_⟩
 have hO7 := hO2.past hbl
 refine rl_v rfl rfl rfl (ov_assign rfl rfl) <| rl_nil <| run_seq <| run_region <| rl_v rfl rfl rfl (ov_move rfl rfl) <| rl_v rfl rfl rfl (ov_neq rfl rfl rfl) <| rl_nil ?_
 first | refine run_cond_dec rfl (fun h1 => ?_) (fun h1 => ?_) | refine run_cond rfl (fun h1 => ?_) (fun h1 => ?_)
 ·refine run_seq <| run_region <| rl_v rfl rfl rfl (ov_move rfl rfl) <| rl_v rfl rfl rfl (ov_assign rfl rfl) <| rl_v rfl rfl rfl (ov_assign rfl rfl) <| rl_nil <| run_ret Tryz.func12 (res2 Tryz.results12 rfl rfl) ?_
  exact ⟨rfl, hO7.below⟩
 ·exfalso; exact h1 hE
theorem certainBad_any : Calls Tryz.prog 19 #[.agg #[.slice ga f.n gc, .slice ba f.m bc, .slice qa nq qc]] w fun e w' => e = .returned (.tuple #[.slice none 0 0, iv (chkF f nq)]) ∧ Below w.heap.size w w' := by
 refine calls_of_run (F := [(0, _)]) Tryz.func19 rfl Tryz.ntmps19 rfl rfl ?_
 have hO0 := Own.init w
 refine run_seq <| run_region <| rl_ow rfl (ow_box _ rfl rfl rfl rfl rfl hO0) ?_
 rintro _ w1 ⟨b1, rfl, hO2, hs3⟩
 refine rl_v rfl rfl rfl (ov_assign rfl rfl) <| rl_v rfl rfl rfl (ov_assign rfl rfl) <| rl_nil <| run_seq <| run_seq <| run_region <| rl_v rfl rfl rfl (ov_loadW rfl Tryz.underlying27 rfl (by kernel_rfl) rfl hO2 0 rfl) ?_
 refine rl_call callable_23 rfl rfl rfl rfl rfl rfl (check5_any ga ba qa gc bc qc nq f _ hlg.n hlg.m hlg.q hlg.gl hlg.bl (hO2.fag hF)) (fun e4 w5 hp6 => ?_)
 obtain ⟨rfl, hbl⟩ := hp6
 refine ⟨_, rfl, ?_⟩
 have hO7 := hO2.past hbl
 refine rl_v rfl rfl rfl (ov_assign rfl rfl) <| rl_nil <| run_seq <| run_region <| rl_v rfl rfl rfl (ov_move rfl rfl) <| rl_v rfl rfl rfl (ov_neq rfl rfl rfl) <| rl_nil ?_
 first | refine run_cond_dec rfl (fun h1 => ?_) (fun h1 => ?_) | refine run_cond rfl (fun h1 => ?_) (fun h1 => ?_)
 ·refine run_seq <| run_region <| rl_v rfl rfl rfl (ov_move rfl rfl) <| rl_v rfl rfl rfl (ov_assign rfl rfl) <| rl_v rfl rfl rfl (ov_assign rfl rfl) <| rl_nil <| run_ret Tryz.func19 (res2 Tryz.results19 rfl rfl) ?_
  exact ⟨rfl, hO7.below⟩
 ·exfalso; exact h1 hE
theorem allBad_any (most : Int) : Calls Tryz.prog 10 #[.agg #[.slice ga f.n gc, .slice ba f.m bc, .slice qa nq qc], iv most] w fun e w' => e = .returned (.tuple #[.slice none 0 0, iv (chkF f nq)]) ∧ Below w.heap.size w w' := by
 refine calls_of_run (F := [(0, _), (1, _)]) Tryz.func10 rfl Tryz.ntmps10 rfl rfl ?_
 have hO0 := Own.init w
 refine run_seq <| run_region <| rl_ow rfl (ow_box _ rfl rfl rfl rfl rfl hO0) ?_
 rintro _ w1 ⟨b1, rfl, hO2, hs3⟩
 refine rl_ow rfl (ow_box _ rfl rfl rfl rfl rfl hO2) ?_
 rintro _ w4 ⟨b2, rfl, hO5, hs6⟩
 refine rl_v rfl rfl rfl (ov_assign rfl rfl) <| rl_v rfl rfl rfl (ov_assign rfl rfl) <| rl_nil <| run_seq <| run_seq <| run_region <| rl_v rfl rfl rfl (ov_loadW rfl Tryz.underlying27 rfl (by kernel_rfl) rfl hO5 1 rfl) ?_
 refine rl_call callable_23 rfl rfl rfl rfl rfl rfl (check5_any ga ba qa gc bc qc nq f _ hlg.n hlg.m hlg.q hlg.gl hlg.bl (hO5.fag hF)) (fun e7 w8 hp9 => ?_)
 obtain ⟨rfl, hbl⟩ := hp9
 refine ⟨_, rfl, ?_⟩
 have hO10 := hO5.past hbl
 refine rl_v rfl rfl rfl (ov_assign rfl rfl) <| rl_nil <| run_seq <| run_region <| rl_v rfl rfl rfl (ov_move rfl rfl) <| rl_v rfl rfl rfl (ov_neq rfl rfl rfl) <| rl_nil ?_
 first | refine run_cond_dec rfl (fun h1 => ?_) (fun h1 => ?_) | refine run_cond rfl (fun h1 => ?_) (fun h1 => ?_)
 ·refine run_seq <| run_region <| rl_v rfl rfl rfl (ov_move rfl rfl) <| rl_v rfl rfl rfl (ov_assign rfl rfl) <| rl_v rfl rfl rfl (ov_assign rfl rfl) <| rl_nil <| run_ret Tryz.func10 (res2 Tryz.results10 rfl rfl) ?_
  exact ⟨rfl, hO10.below⟩
 ·exfalso; exact h1 hE
theorem mergedBad_any (bt : Bool) : Calls Tryz.prog 55 #[.agg #[.slice ga f.n gc, .slice ba f.m bc, .slice qa nq qc], .slice aa an ac, .slice xa xn xc, .bool bt] w fun e w' => e = .returned (.tuple #[.slice none 0 0, iv (chkF f nq)]) ∧ Below w.heap.size w w' := by
 refine calls_of_run (F := [(0, _), (1, _), (2, _), (3, _)]) Tryz.func55 rfl Tryz.ntmps55 rfl rfl ?_
 have hO0 := Own.init w
 refine run_seq <| run_region <| rl_ow rfl (ow_box _ rfl rfl rfl rfl rfl hO0) ?_
 rintro _ w1 ⟨b1, rfl, hO2, hs3⟩
 refine rl_v rfl rfl rfl (ov_assign rfl rfl) <| rl_v rfl rfl rfl (ov_assign rfl rfl) <| rl_nil <| run_seq <| run_seq <| run_region <| rl_v rfl rfl rfl (ov_loadW rfl Tryz.underlying27 rfl (by kernel_rfl) rfl hO2 0 rfl) ?_
 refine rl_call callable_23 rfl rfl rfl rfl rfl rfl (check5_any ga ba qa gc bc qc nq f _ hlg.n hlg.m hlg.q hlg.gl hlg.bl (hO2.fag hF)) (fun e4 w5 hp6 => ?_)
 obtain ⟨rfl, hbl⟩ := hp6
 refine ⟨_, rfl, ?_⟩
 have hO7 := hO2.past hbl
 refine rl_v rfl rfl rfl (ov_assign rfl rfl) <| rl_nil <| run_seq <| run_region <| rl_v rfl rfl rfl (ov_move rfl rfl) <| rl_v rfl rfl rfl (ov_neq rfl rfl rfl) <| rl_nil ?_
 first | refine run_cond_dec rfl (fun h1 => ?_) (fun h1 => ?_) | refine run_cond rfl (fun h1 => ?_) (fun h1 => ?_)
 ·refine run_seq <| run_region <| rl_v rfl rfl rfl (ov_move rfl rfl) <| rl_v rfl rfl rfl (ov_assign rfl rfl) <| rl_v rfl rfl rfl (ov_assign rfl rfl) <| rl_nil <| run_ret Tryz.func55 (res2 Tryz.results55 rfl rfl) ?_
  exact ⟨rfl, hO7.below⟩
 ·exfalso; exact h1 hE
theorem joinBad_any : Calls Tryz.prog 25 #[.agg #[.slice ga f.n gc, .slice ba f.m bc, .slice qa nq qc], .slice aa an ac, .slice xa xn xc] w fun e w' => e = .returned (.tuple #[.slice none 0 0, iv (chkF f nq)]) ∧ Below w.heap.size w w' := by
 refine calls_of_run (F := [(0, _), (1, _), (2, _)]) Tryz.func25 rfl Tryz.ntmps25 rfl rfl ?_
 have hO0 := Own.init w
 refine run_seq <| run_region <| rl_ow rfl (ow_box _ rfl rfl rfl rfl rfl hO0) ?_
 rintro _ w1 ⟨b1, rfl, hO2, hs3⟩
 refine rl_v rfl rfl rfl (ov_assign rfl rfl) <| rl_v rfl rfl rfl (ov_assign rfl rfl) <| rl_nil <| run_seq <| run_region <| rl_v rfl rfl rfl (ov_loadW rfl Tryz.underlying27 rfl (by kernel_rfl) rfl hO2 0 rfl) ?_
 refine rl_v rfl rfl rfl (ov_move rfl rfl) <| rl_v rfl rfl rfl (ov_move rfl rfl) ?_
 refine rl_call callable_55 rfl rfl rfl rfl rfl rfl (mergedBad_any ga ba qa aa xa gc bc qc nq an ac xn xc f _ hlg (hO2.fag hF) hE true) (fun e4 w5 hp6 => ?_)
 obtain ⟨rfl, hbl⟩ := hp6
 refine ⟨_, rfl, ?_⟩
 have hO7 := hO2.past hbl
 refine rl_v rfl rfl rfl (ov_extract rfl rfl (by rfl)) ?_
 refine rl_v rfl rfl rfl (ov_extract rfl rfl (by rfl)) ?_
 refine rl_v rfl rfl rfl (ov_assign rfl rfl) <| rl_v rfl rfl rfl (ov_assign rfl rfl) <| rl_nil <| run_ret Tryz.func25 (res2 Tryz.results25 rfl rfl) ?_
 exact ⟨rfl, hO7.below⟩
theorem meetBad_any : Calls Tryz.prog 26 #[.agg #[.slice ga f.n gc, .slice ba f.m bc, .slice qa nq qc], .slice aa an ac, .slice xa xn xc] w fun e w' => e = .returned (.tuple #[.slice none 0 0, iv (chkF f nq)]) ∧ Below w.heap.size w w' := by
 refine calls_of_run (F := [(0, _), (1, _), (2, _)]) Tryz.func26 rfl Tryz.ntmps26 rfl rfl ?_
 have hO0 := Own.init w
 refine run_seq <| run_region <| rl_ow rfl (ow_box _ rfl rfl rfl rfl rfl hO0) ?_
 rintro _ w1 ⟨b1, rfl, hO2, hs3⟩
 refine rl_v rfl rfl rfl (ov_assign rfl rfl) <| rl_v rfl rfl rfl (ov_assign rfl rfl) <| rl_nil <| run_seq <| run_region <| rl_v rfl rfl rfl (ov_loadW rfl Tryz.underlying27 rfl (by kernel_rfl) rfl hO2 0 rfl) ?_
 refine rl_v rfl rfl rfl (ov_move rfl rfl) <| rl_v rfl rfl rfl (ov_move rfl rfl) ?_
 refine rl_call callable_55 rfl rfl rfl rfl rfl rfl (mergedBad_any ga ba qa aa xa gc bc qc nq an ac xn xc f _ hlg (hO2.fag hF) hE false) (fun e4 w5 hp6 => ?_)
 obtain ⟨rfl, hbl⟩ := hp6
 refine ⟨_, rfl, ?_⟩
 have hO7 := hO2.past hbl
 refine rl_v rfl rfl rfl (ov_extract rfl rfl (by rfl)) ?_
 refine rl_v rfl rfl rfl (ov_extract rfl rfl (by rfl)) ?_
 refine rl_v rfl rfl rfl (ov_assign rfl rfl) <| rl_v rfl rfl rfl (ov_assign rfl rfl) <| rl_nil <| run_ret Tryz.func26 (res2 Tryz.results26 rfl rfl) ?_
 exact ⟨rfl, hO7.below⟩
end
end Go.Proofs.YtlldeifbfpmbaaaGreat
