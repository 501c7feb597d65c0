import Derived.Test.YteagflekbbchhaaReX
set_option maxRecDepth 100000
namespace Go.Proofs.Yteagflekbbchhaa
open Go.RowKit Go.Proofs
theorem perm_5 {α : Type} (N : List α) (a b x c : α) : (N ++ [a, b, x, c]).Perm (x :: ((N ++ [a, b]) ++ [c])) :=
 (List.Perm.of_eq (by simp)).trans (List.perm_middle (l₁ := N ++ [a, b]) (l₂ := [c]))
set_option maxHeartbeats 1600000 in
theorem settleQuestions_any (m p : Int) (a1 a2 lo : Option Addr) (n1 n2 c1 c2 ln lc : Nat) (G1 G2 : Int → Int) (S : Acts) (of : Int → Int) (w : World) (h1 : IAt w.heap.size w a1 n1 (fun i => iv (G1 i))) (h2 : IAt w.heap.size w a2 n2 (fun i => iv (G2 i))) (hl : SAt w.heap.size w lo 7 ln S.l) (hkp : ∀ i, S.kept i ≤ 9223372036854775807) :
  Calls Try.prog 9 #[.agg #[iv m, iv p, .slice a1 n1 c1, .slice a2 n2 c2], .slice lo ln lc, arrv 2 (fun i => iv (of i))] w fun e w' => e = .returned (.bool true) ∧ Below w.heap.size w w' := by
 refine calls_of_run (F := [(0, _), (1, _), (2, _)]) Try.func9 rfl Try.ntmps9 rfl rfl <| run_seq <| run_region <| rl_ow rfl (ow_box _ rfl rfl rfl rfl rfl (Own.init w)) ?_
 rintro _ w1 ⟨b3, rfl, hO2, hs3⟩
 refine rl_ow rfl (ow_boxA rfl rfl rfl rfl hO2) ?_
 rintro _ w4 ⟨b5, rfl, hO5, hs6⟩
 refine rl_v rfl rfl rfl (ov_assign rfl rfl) <| rl_nil <| run_seq <| run_region <| rl_v rfl rfl rfl (ov_loadW rfl Try.underlying24 rfl (by kernel_rfl) rfl hO5 1 rfl) ?_
 refine rl_call callable_13 rfl rfl rfl rfl rfl rfl (tame_any m p a1 a2 n1 n2 c1 c2 G1 G2 w.heap.size _ w w4 h1 h2 hO5) (fun e7 w8 hp9 => ?_)
 obtain ⟨mem, pat, f1, f2, v1, v2, k1, k2, rfl, hm, hp, hR1, hR2, ⟨hl1, hl2⟩, hf1, hf2, hOt⟩ := hp9
 refine ⟨_, rfl, ?_⟩
 obtain ⟨s1, z1, rfl⟩ := hR1.val
 obtain ⟨s2, z2, rfl⟩ := hR2.val
 refine rl_v rfl rfl rfl (ov_move rfl rfl) ?_
 refine rl_call callable_28 rfl rfl rfl rfl rfl rfl (run_any KnZ step_knz mem pat f1 f2 s1 s2 lo z1 z2 ln lc w.heap.size 25 S k1 k2 _ w w8 (fun _ _ => rfl) (by omega) hm (by omega) hl1 hl2 hf1 hf2 hR1 hR2 (by simp) (by simp) hl hkp hOt) (fun e10 w11 hp12 => ?_)
 obtain ⟨A, X, K, N, rfl, ⟨hX, hI⟩, hW, hK⟩ := hp12
 refine ⟨_, rfl, ?_⟩
 have hG := hX.good
 have hL := hX.linv
 have hdn := hG.dn
 have hph := hX.phi
 have hbg : X.bag.length + 5000 < 4000000000000 := by unfold phi at hph; omega
 obtain ⟨R6, hR6⟩ : ∃ R6, R6 = (N ++ [k1, k2]) ++ [some (lch b3 24 [iv m, iv p, .slice a1 n1 c1, .slice a2 n2 c2])] := ⟨_, rfl⟩
 have hK6 : XIn (some (vch b5 61 2 (fun i => iv (of i))) :: R6) X K := hK.mono fun x hx => by rw [hR6]; exact (perm_5 N k1 k2 _ _).mem_iff.1 hx
 have hW6 : WAt w.heap.size w w11 A X [] (some (vch b5 61 2 (fun i => iv (of i))) :: R6) := by rw [hR6]; exact hW.pm (perm_5 N k1 k2 _ _)
 clear hR6
 obtain ⟨Kw, Nw, hO, hKw, hPl⟩ := hW6.fr
 refine rl_v rfl rfl rfl (ov_move rfl rfl) <| rl_v rfl rfl rfl (ov_extract rfl rfl (by rfl)) ?_
 refine rl_v rfl rfl rfl (ov_extract rfl rfl (by rfl)) ?_
 refine rl_ow rfl (ow_alloc _ rfl rfl rfl zero_69 rfl hO) ?_
 rintro _ w13 ⟨b8, rfl, hO14, hs15⟩
 refine rl_v rfl rfl rfl (ov_assign rfl rfl) <| rl_ow rfl (ow_storeW rfl rfl (by kernel_rfl) hO14 0 rfl rfl (by rfl) rfl (by rfl)) ?_
 rintro _ w16 ⟨rfl, hO17, hs18⟩
 have hW8 := WAt.unfr (R := some (lch b8 69 (rwl X K)) :: some (vch b5 61 2 (fun i => iv (of i))) :: R6) hO17 hKw hPl
 refine rl_nil <| run_seq <| run_seq <| run_region <| rl_v rfl rfl rfl (ov_move rfl rfl) <| rl_v rfl rfl rfl (ov_ptrnil rfl Try.underlying27 rfl) <| rl_nil <| run_cond_f rfl <| run_skip <| run_seq <| run_quiet mixed (by kernel_rfl) ?_
 refine rq_v rfl rfl rfl (fun _ => ov_indexA1 rfl Try.underlying61 (by kernel_rfl) rfl rfl ⟨by omega, by omega⟩) ?_
 refine rq_v rfl rfl rfl (fun _ => ov_load rfl Try.underlying3 rfl rfl (by show World.cell? w16 _ = _; first | exact hO17.cellI 1 rfl 0 (by decide) (by decide))) ?_
 refine rq_v rfl rfl rfl (fun _ => ov_indexA1 rfl Try.underlying61 (by kernel_rfl) rfl rfl ⟨by omega, by omega⟩) ?_
 refine rq_v rfl rfl rfl (fun _ => ov_load rfl Try.underlying3 rfl rfl (by show World.cell? w16 _ = _; first | exact hO17.cellI 1 rfl 1 (by decide) (by decide))) ?_
 refine rq_v rfl rfl rfl (fun _ => ov_assign rfl rfl) ?_
 refine rq_v rfl rfl rfl (fun _ => ov_assign rfl rfl) ?_
 refine rq_nil (fun n19 => ?_)
 have hO21 := hO17.drewN n19
 generalize World.drewN w16 n19 = w20 at hO21 ⊢
 refine run_seq <| run_seq <| run_region_join 39 (.bool (decide ((0 ≤ of 0 ∧ of 0 ≤ 2)))) [7, 8, 9, 10] (fun hk22 => ?_) ?_
 ·refine rl_v rfl rfl rfl (ov_move rfl rfl) <| rl_v rfl rfl rfl (ov_geq rfl rfl rfl) <| rl_v rfl rfl rfl (ov_move rfl rfl) ?_
  first | refine rl_split_dec 36 rfl (fun hg23 => ?_) (fun hg23 => ?_) | refine rl_split 36 rfl (fun hg23 => ?_) (fun hg23 => ?_)
  ·refine rl_gv rfl rfl rfl rfl rfl (ov_move rfl rfl) <| rl_gv rfl rfl rfl rfl rfl (ov_leq rfl rfl rfl) <| rl_v rfl rfl rfl (ov_pick_t rfl rfl rfl) ?_
   refine rl_nil (hk22 _ (jbd rfl (by omega)) (And.intro rfl (And.intro rfl (And.intro rfl (And.intro rfl trivial)))))
  ·refine rl_gskip rfl rfl rfl rfl rfl rfl <| rl_gskip rfl rfl rfl rfl rfl rfl <| rl_v rfl rfl rfl (ov_pick_f rfl rfl rfl) ?_
   refine rl_nil (hk22 _ (jbf rfl (by omega)) (And.intro rfl (And.intro rfl (And.intro rfl (And.intro rfl trivial)))))
 ·show Run _ _ _ _ [(39, _), (7, _), (8, _), (9, _), (10, _)] _ _
  refine Run.keep [7, 8, 9, 10, 39] (F' := [(7, _), (8, _), (9, _), (10, _), (39, _)]) rfl <| run_join1 (fun (n : Int) => [(9, .int .i64 n)]) [7, 8, 10] (fun (n : Int) (w24 : World) => ¬ (0 ≤ n ∧ n ≤ 2) ∧ WAt w.heap.size w w24 A X [] (some (lch b8 69 (rwl X K)) :: some (vch b5 61 2 (fun i => iv (of i))) :: R6)) (fun hk25 => ?_) ?_
  ·first | refine run_cond_dec rfl (fun z1 => ?_) (fun z2 => ?_) | refine run_cond rfl (fun z1 => ?_) (fun z2 => ?_)
   ·have hWz := WAt.unfr (R := some (lch b8 69 (rwl X K)) :: some (vch b5 61 2 (fun i => iv (of i))) :: R6) hO21 hKw hPl
    refine run_region <| rl_v rfl rfl rfl (ov_move rfl rfl) <| rl_v rfl rfl rfl (ov_add rfl rfl rfl (by omega)) ?_
    refine rl_v rfl rfl rfl (ov_assign rfl rfl) <| rl_nil ?_
    refine Run.use (hk25 (3 + of 0) _ ?_) (And.intro (by exact slot_int rfl (by first | omega)) (And.intro rfl (And.intro rfl (And.intro rfl trivial))))
    exact ⟨by omega, hWz⟩
   ·have hWz := WAt.unfr (R := some (lch b8 69 (rwl X K)) :: some (vch b5 61 2 (fun i => iv (of i))) :: R6) hO21 hKw hPl
    refine run_skip ?_
    refine Run.use (hk25 (of 0) _ ?_) (And.intro (by exact slot_int rfl (by first | omega)) (And.intro rfl (And.intro rfl (And.intro rfl trivial))))
    exact ⟨z2, hWz⟩
  ·intro n w24 hJw24
   obtain ⟨hn, hW⟩ := hJw24
   show Run _ _ _ _ [(9, _), (7, _), (8, _), (10, _)] _ _
   refine run_seq <| run_seq <| run_region_join 50 (.bool (decide ((1 ≤ of 1 ∧ of 1 ≤ X.deals.length)))) [7, 8, 9, 10] (fun hk26 => ?_) ?_
   ·refine rl_v rfl rfl rfl (ov_move rfl rfl) <| rl_v rfl rfl rfl (ov_geq rfl rfl rfl) <| rl_v rfl rfl rfl (ov_move rfl rfl) ?_
    first | refine rl_split_dec 44 rfl (fun hg27 => ?_) (fun hg27 => ?_) | refine rl_split 44 rfl (fun hg27 => ?_) (fun hg27 => ?_)
    ·refine rl_gv rfl rfl rfl rfl rfl (ov_move rfl rfl) <| rl_gv rfl rfl rfl rfl rfl (ov_fieldS rfl Try.underlying69 rfl (fo := 4) rfl (by kernel_rfl) rfl) ?_
     refine rl_gv rfl rfl rfl rfl rfl (ov_load rfl Try.underlying25 rfl rfl (by exact (hW.own).cellL 0 rfl rfl)) ?_
     refine rl_gv rfl rfl rfl rfl rfl (ov_len rfl Try.underlying25 rfl) <| rl_gv rfl rfl rfl rfl rfl (ov_leq rfl rfl rfl) <| rl_v rfl rfl rfl (ov_pick_t rfl rfl rfl) ?_
     refine rl_nil (hk26 _ (jbd rfl (by omega)) (And.intro rfl (And.intro rfl (And.intro rfl (And.intro rfl trivial)))))
    ·refine rl_gskip rfl rfl rfl rfl rfl rfl <| rl_gskip rfl rfl rfl rfl rfl rfl <| rl_gskip rfl rfl rfl rfl rfl rfl <| rl_gskip rfl rfl rfl rfl rfl rfl <| rl_gskip rfl rfl rfl rfl rfl rfl <| rl_v rfl rfl rfl (ov_pick_f rfl rfl rfl) ?_
     refine rl_nil (hk26 _ (jbf rfl (by omega)) (And.intro rfl (And.intro rfl (And.intro rfl (And.intro rfl trivial)))))
   ·show Run _ _ _ _ [(50, _), (7, _), (8, _), (9, _), (10, _)] _ _
    refine Run.keep [7, 8, 9, 10, 50] (F' := [(7, _), (8, _), (9, _), (10, _), (50, _)]) rfl <| run_join1 (fun (d : Int) => [(10, .int .i64 d)]) [7, 8, 9] (fun (d : Int) (w28 : World) => ¬ (1 ≤ d ∧ d ≤ X.deals.length) ∧ WAt w.heap.size w w28 A X [] (some (lch b8 69 (rwl X K)) :: some (vch b5 61 2 (fun i => iv (of i))) :: R6)) (fun hk29 => ?_) ?_
    ·first | refine run_cond_dec rfl (fun z1 => ?_) (fun z2 => ?_) | refine run_cond rfl (fun z1 => ?_) (fun z2 => ?_)
     ·refine run_region <| rl_v rfl rfl rfl (ov_move rfl rfl) <| rl_v rfl rfl rfl (ov_neg rfl rfl (by omega)) ?_
      refine rl_v rfl rfl rfl (ov_assign rfl rfl) <| rl_nil ?_
      refine Run.use (hk29 (- of 1) _ ?_) (And.intro (by exact slot_int rfl (by first | omega)) (And.intro rfl (And.intro rfl (And.intro rfl trivial))))
      exact ⟨by omega, hW⟩
     ·refine run_skip ?_
      refine Run.use (hk29 (of 1) _ ?_) (And.intro (by exact slot_int rfl (by first | omega)) (And.intro rfl (And.intro rfl (And.intro rfl trivial))))
      exact ⟨z2, hW⟩
    ·intro d w28 hJw28
     obtain ⟨hd, hW⟩ := hJw28
     show Run _ _ _ _ [(10, _), (7, _), (8, _), (9, _)] _ _
     refine run_seq <| run_region <| rl_v rfl rfl rfl (ov_move rfl rfl) <| rl_v rfl rfl rfl (ov_move rfl rfl) ?_
     refine rl_call callable_24 rfl rfl rfl rfl rfl rfl (bal_none A X n w.heap.size [] _ w w28 (by omega) hW) (fun e30 w31 hp32 => ?_)
     obtain ⟨rfl, hWa⟩ := hp32
     refine ⟨_, rfl, ?_⟩
     refine rl_v rfl rfl rfl (ov_move rfl rfl) <| rl_v rfl rfl rfl (ov_extract rfl rfl (by rfl)) ?_
     refine rl_v rfl rfl rfl (ov_extract rfl rfl (by rfl)) ?_
     refine rl_v rfl rfl rfl (ov_assign rfl rfl) <| rl_v rfl rfl rfl (ov_assign rfl rfl) <| rl_nil <| run_seq <| run_region <| rl_v rfl rfl rfl (ov_move rfl rfl) <| rl_v rfl rfl rfl (ov_move rfl rfl) ?_
     refine rl_call callable_16 rfl rfl rfl rfl rfl rfl (free_none A X n w.heap.size [] _ w w31 (by omega) hWa) (fun e33 w34 hp35 => ?_)
     obtain ⟨rfl, hWb⟩ := hp35
     refine ⟨_, rfl, ?_⟩
     refine rl_v rfl rfl rfl (ov_move rfl rfl) <| rl_v rfl rfl rfl (ov_extract rfl rfl (by rfl)) ?_
     refine rl_v rfl rfl rfl (ov_extract rfl rfl (by rfl)) ?_
     refine rl_v rfl rfl rfl (ov_assign rfl rfl) <| rl_v rfl rfl rfl (ov_assign rfl rfl) <| rl_nil <| run_seq <| run_region <| rl_v rfl rfl rfl (ov_move rfl rfl) ?_
     refine rl_call callable_24 rfl rfl rfl rfl rfl rfl (bal_none A X 0 w.heap.size [] _ w w34 (by omega) hWb) (fun e36 w37 hp38 => ?_)
     obtain ⟨rfl, hWc⟩ := hp38
     refine ⟨_, rfl, ?_⟩
     refine rl_v rfl rfl rfl (ov_move rfl rfl) <| rl_v rfl rfl rfl (ov_extract rfl rfl (by rfl)) ?_
     refine rl_v rfl rfl rfl (ov_extract rfl rfl (by rfl)) ?_
     refine rl_v rfl rfl rfl (ov_assign rfl rfl) <| rl_v rfl rfl rfl (ov_assign rfl rfl) <| rl_nil <| run_seq <| run_region <| rl_v rfl rfl rfl (ov_move rfl rfl) ?_
     refine rl_call callable_16 rfl rfl rfl rfl rfl rfl (free_none A X 0 w.heap.size [] _ w w37 (by omega) hWc) (fun e39 w40 hp41 => ?_)
     obtain ⟨rfl, hWd⟩ := hp41
     refine ⟨_, rfl, ?_⟩
     refine rl_v rfl rfl rfl (ov_move rfl rfl) <| rl_v rfl rfl rfl (ov_extract rfl rfl (by rfl)) ?_
     refine rl_v rfl rfl rfl (ov_extract rfl rfl (by rfl)) ?_
     refine rl_v rfl rfl rfl (ov_assign rfl rfl) <| rl_v rfl rfl rfl (ov_assign rfl rfl) <| rl_nil <| run_seq <| run_region <| rl_v rfl rfl rfl (ov_move rfl rfl) <| rl_v rfl rfl rfl (ov_move rfl rfl) ?_
     refine rl_call callable_23 rfl rfl rfl rfl rfl rfl (log_none A X n w.heap.size [] _ w w40 (by omega) hWd) (fun e42 w43 hp44 => ?_)
     obtain ⟨rfl, hWe⟩ := hp44
     refine ⟨_, rfl, ?_⟩
     refine rl_v rfl rfl rfl (ov_move rfl rfl) <| rl_v rfl rfl rfl (ov_extract rfl rfl (by rfl)) ?_
     refine rl_v rfl rfl rfl (ov_extract rfl rfl (by rfl)) ?_
     refine rl_v rfl rfl rfl (ov_assign rfl rfl) <| rl_v rfl rfl rfl (ov_assign rfl rfl) <| rl_nil <| run_seq <| run_region <| rl_v rfl rfl rfl (ov_move rfl rfl) <| rl_v rfl rfl rfl (ov_eql rfl rfl rfl) <| rl_v rfl rfl rfl (ov_move rfl rfl) ?_
     first | refine rl_yesD 83 rfl (rfl) ?_ | refine rl_yes 83 rfl (rfl) ?_
     refine rl_gv rfl rfl rfl rfl rfl (ov_move rfl rfl) <| rl_gv rfl rfl rfl rfl rfl (ov_eql rfl rfl rfl) <| rl_v rfl rfl rfl (ov_pick_t rfl rfl rfl) <| rl_v rfl rfl rfl (ov_move rfl rfl) ?_
     first | refine rl_yesD 87 rfl (rfl) ?_ | refine rl_yes 87 rfl (rfl) ?_
     refine rl_gv rfl rfl rfl rfl rfl (ov_move rfl rfl) <| rl_gv rfl rfl rfl rfl rfl (ov_eql rfl rfl rfl) <| rl_v rfl rfl rfl (ov_pick_t rfl rfl rfl) <| rl_v rfl rfl rfl (ov_move rfl rfl) ?_
     first | refine rl_yesD 91 rfl (rfl) ?_ | refine rl_yes 91 rfl (rfl) ?_
     refine rl_gv rfl rfl rfl rfl rfl (ov_move rfl rfl) <| rl_gv rfl rfl rfl rfl rfl (ov_eql rfl rfl rfl) <| rl_v rfl rfl rfl (ov_pick_t rfl rfl rfl) <| rl_v rfl rfl rfl (ov_move rfl rfl) ?_
     first | refine rl_yesD 95 rfl (rfl) ?_ | refine rl_yes 95 rfl (rfl) ?_
     refine rl_gv rfl rfl rfl rfl rfl (ov_move rfl rfl) <| rl_gv rfl rfl rfl rfl rfl (ov_len rfl Try.underlying22 rfl) <| rl_gv rfl rfl rfl rfl rfl (ov_eql rfl rfl rfl) <| rl_v rfl rfl rfl (ov_pick_t rfl rfl rfl) <| rl_v rfl rfl rfl (ov_move rfl rfl) ?_
     first | refine rl_yesD 100 rfl (rfl) ?_ | refine rl_yes 100 rfl (rfl) ?_
     refine rl_gv rfl rfl rfl rfl rfl (ov_move rfl rfl) <| rl_gv rfl rfl rfl rfl rfl (ov_len rfl Try.underlying22 rfl) <| rl_gv rfl rfl rfl rfl rfl (ov_eql rfl rfl rfl) <| rl_v rfl rfl rfl (ov_pick_t rfl rfl rfl) <| rl_v rfl rfl rfl (ov_move rfl rfl) ?_
     first | refine rl_yesD 105 rfl (rfl) ?_ | refine rl_yes 105 rfl (rfl) ?_
     refine rl_gv rfl rfl rfl rfl rfl (ov_move rfl rfl) <| rl_gv rfl rfl rfl rfl rfl (ov_len rfl Try.underlying22 rfl) <| rl_gv rfl rfl rfl rfl rfl (ov_eql rfl rfl rfl) <| rl_v rfl rfl rfl (ov_pick_t rfl rfl rfl) <| rl_v rfl rfl rfl (ov_move rfl rfl) ?_
     first | refine rl_yesD 110 rfl (rfl) ?_ | refine rl_yes 110 rfl (rfl) ?_
     refine rl_gv rfl rfl rfl rfl rfl (ov_move rfl rfl) <| rl_gv rfl rfl rfl rfl rfl (ov_len rfl Try.underlying22 rfl) <| rl_gv rfl rfl rfl rfl rfl (ov_eql rfl rfl rfl) <| rl_v rfl rfl rfl (ov_pick_t rfl rfl rfl) <| rl_v rfl rfl rfl (ov_move rfl rfl) ?_
     first | refine rl_yesD 115 rfl (rfl) ?_ | refine rl_yes 115 rfl (rfl) ?_
     refine rl_gv rfl rfl rfl rfl rfl (ov_move rfl rfl) <| rl_gv rfl rfl rfl rfl rfl (ov_eql rfl rfl rfl) <| rl_v rfl rfl rfl (ov_pick_t rfl rfl rfl) <| rl_v rfl rfl rfl (ov_move rfl rfl) ?_
     first | refine rl_yesD 119 rfl (rfl) ?_ | refine rl_yes 119 rfl (rfl) ?_
     refine rl_gv rfl rfl rfl rfl rfl (ov_move rfl rfl) <| rl_gv rfl rfl rfl rfl rfl (ov_eql rfl rfl rfl) <| rl_v rfl rfl rfl (ov_pick_t rfl rfl rfl) <| rl_v rfl rfl rfl (ov_move rfl rfl) ?_
     first | refine rl_yesD 123 rfl (rfl) ?_ | refine rl_yes 123 rfl (rfl) ?_
     refine rl_gv rfl rfl rfl rfl rfl (ov_move rfl rfl) <| rl_gv rfl rfl rfl rfl rfl (ov_move rfl rfl) ?_
     refine rl_gcall callable_30 rfl rfl rfl rfl rfl rfl rfl rfl (up_none A X n w.heap.size [] _ w w43 (by omega) hWe) (fun e45 w46 hp47 => ?_)
     obtain ⟨rfl, hWf⟩ := hp47
     refine ⟨_, rfl, ?_⟩
     refine rl_gv rfl rfl rfl rfl rfl (ov_not rfl rfl) <| rl_v rfl rfl rfl (ov_pick_t rfl rfl rfl) <| rl_v rfl rfl rfl (ov_move rfl rfl) ?_
     first | refine rl_yesD 129 rfl (rfl) ?_ | refine rl_yes 129 rfl (rfl) ?_
     refine rl_gv rfl rfl rfl rfl rfl (ov_move rfl rfl) <| rl_gv rfl rfl rfl rfl rfl (ov_move rfl rfl) ?_
     refine rl_gcall callable_34 rfl rfl rfl rfl rfl rfl rfl rfl (stateZ A X d w.heap.size [] _ w w46 hI hd hWf) (fun e48 w49 hp50 => ?_)
     obtain ⟨rfl, hWg⟩ := hp50
     refine ⟨_, rfl, ?_⟩
     refine rl_gv rfl rfl rfl rfl rfl (ov_eql rfl rfl rfl) <| rl_v rfl rfl rfl (ov_pick_t rfl rfl rfl) <| rl_v rfl rfl rfl (ov_move rfl rfl) ?_
     first | refine rl_yesD 135 rfl (rfl) ?_ | refine rl_yes 135 rfl (rfl) ?_
     refine rl_gv rfl rfl rfl rfl rfl (ov_move rfl rfl) <| rl_gv rfl rfl rfl rfl rfl (ov_move rfl rfl) ?_
     refine rl_gcall callable_19 rfl rfl rfl rfl rfl rfl rfl rfl (atZ A X d w.heap.size [] _ w w49 hG hd hWg) (fun e51 w52 hp53 => ?_)
     obtain ⟨rfl, hWh⟩ := hp53
     refine ⟨_, rfl, ?_⟩
     refine rl_gv rfl rfl rfl rfl rfl (ov_eql rfl rfl rfl) <| rl_v rfl rfl rfl (ov_pick_t rfl rfl rfl) <| rl_v rfl rfl rfl (ov_move rfl rfl) ?_
     first | refine rl_yesD 141 rfl (rfl) ?_ | refine rl_yes 141 rfl (rfl) ?_
     refine rl_gv rfl rfl rfl rfl rfl (ov_move rfl rfl) <| rl_gv rfl rfl rfl rfl rfl (ov_move rfl rfl) ?_
     refine rl_gcall callable_19 rfl rfl rfl rfl rfl rfl rfl rfl (at_none A X n 1 w.heap.size [] _ w w52 (by omega) hWh) (fun e54 w55 hp56 => ?_)
     obtain ⟨rfl, hWi⟩ := hp56
     refine ⟨_, rfl, ?_⟩
     refine rl_gv rfl rfl rfl rfl rfl (ov_eql rfl rfl rfl) <| rl_v rfl rfl rfl (ov_pick_t rfl rfl rfl) <| rl_v rfl rfl rfl (ov_move rfl rfl) ?_
     first | refine rl_yesD 147 rfl (rfl) ?_ | refine rl_yes 147 rfl (rfl) ?_
     refine rl_gv rfl rfl rfl rfl rfl (ov_move rfl rfl) <| rl_gv rfl rfl rfl rfl rfl (ov_move rfl rfl) ?_
     refine rl_gcall callable_31 rfl rfl rfl rfl rfl rfl rfl rfl (tick_none A X n w.heap.size [] _ w w55 (by omega) hWi) (fun e57 w58 hp59 => ?_)
     obtain ⟨rfl, hWj⟩ := hp59
     refine ⟨_, rfl, ?_⟩
     refine rl_gv rfl rfl rfl rfl rfl (ov_eql rfl rfl rfl) <| rl_v rfl rfl rfl (ov_pick_t rfl rfl rfl) <| rl_v rfl rfl rfl (ov_move rfl rfl) ?_
     first | refine rl_yesD 153 rfl (rfl) ?_ | refine rl_yes 153 rfl (rfl) ?_
     refine rl_gv rfl rfl rfl rfl rfl (ov_move rfl rfl) <| rl_gv rfl rfl rfl rfl rfl (ov_move rfl rfl) ?_
     refine rl_gcall callable_29 rfl rfl rfl rfl rfl rfl rfl rfl (crash_none A X n (-1) w.heap.size [] _ w w58 (by omega) hWj) (fun e60 w61 hp62 => ?_)
     obtain ⟨rfl, hWk⟩ := hp62
     refine ⟨_, rfl, ?_⟩
     refine rl_gv rfl rfl rfl rfl rfl (ov_eql rfl rfl rfl) <| rl_v rfl rfl rfl (ov_pick_t rfl rfl rfl) <| rl_v rfl rfl rfl (ov_move rfl rfl) ?_
     first | refine rl_yesD 159 rfl (rfl) ?_ | refine rl_yes 159 rfl (rfl) ?_
     refine rl_gv rfl rfl rfl rfl rfl (ov_move rfl rfl) <| rl_gv rfl rfl rfl rfl rfl (ov_move rfl rfl) ?_
     refine rl_gcall callable_32 rfl rfl rfl rfl rfl rfl rfl rfl (restart_none A X n w.heap.size [] _ w w61 (by omega) hWk) (fun e63 w64 hp65 => ?_)
     obtain ⟨rfl, hWl⟩ := hp65
     refine ⟨_, rfl, ?_⟩
     refine rl_gv rfl rfl rfl rfl rfl (ov_eql rfl rfl rfl) <| rl_v rfl rfl rfl (ov_pick_t rfl rfl rfl) <| rl_v rfl rfl rfl (ov_move rfl rfl) ?_
     first | refine rl_yesD 165 rfl (rfl) ?_ | refine rl_yes 165 rfl (rfl) ?_
     refine rl_gv rfl rfl rfl rfl rfl (ov_move rfl rfl) <| rl_gv rfl rfl rfl rfl rfl (ov_move rfl rfl) ?_
     refine rl_gcall callable_42 rfl rfl rfl rfl rfl rfl rfl rfl (fuse_none A X n (-1) w.heap.size [] _ w w64 (by omega) hWl) (fun e66 w67 hp68 => ?_)
     obtain ⟨rfl, hWm⟩ := hp68
     refine ⟨_, rfl, ?_⟩
     refine rl_gv rfl rfl rfl rfl rfl (ov_eql rfl rfl rfl) <| rl_v rfl rfl rfl (ov_pick_t rfl rfl rfl) <| rl_v rfl rfl rfl (ov_move rfl rfl) ?_
     first | refine rl_yesD 171 rfl (rfl) ?_ | refine rl_yes 171 rfl (rfl) ?_
     refine rl_gv rfl rfl rfl rfl rfl (ov_move rfl rfl) <| rl_gv rfl rfl rfl rfl rfl (ov_loadW rfl Try.underlying69 rfl (by kernel_rfl) rfl (hWm.own) 0 rfl) ?_
     refine rl_gcall callable_41 rfl rfl rfl rfl rfl rfl rfl rfl (shows_any A X K w.heap.size _ _ w w67 hG hL (by omega) (fun x h => List.mem_cons_of_mem _ h) hK6 hWm) (fun e69 w70 hp71 => ?_)
     obtain ⟨rfl, hWn⟩ := hp71
     refine ⟨_, rfl, ?_⟩
     refine rl_v rfl rfl rfl (ov_pick_t rfl rfl rfl) <| rl_v rfl rfl rfl (ov_move rfl rfl) ?_
     first | refine rl_yesD 176 rfl (rfl) ?_ | refine rl_yes 176 rfl (rfl) ?_
     refine rl_gcall callable_20 rfl rfl rfl rfl rfl rfl rfl rfl (awake_any w.heap.size _ w w70 hWn.own) (fun e72 w73 hp74 => ?_)
     obtain ⟨rfl, hOe⟩ := hp74
     refine ⟨_, rfl, ?_⟩
     refine rl_v rfl rfl rfl (ov_pick_t rfl rfl rfl) <| rl_v rfl rfl rfl (ov_assign rfl rfl) <| rl_nil <| run_ret Try.func9 (res1 Try.results9 rfl) ?_
     exact ⟨rfl, hOe.below⟩
end Go.Proofs.Yteagflekbbchhaa
