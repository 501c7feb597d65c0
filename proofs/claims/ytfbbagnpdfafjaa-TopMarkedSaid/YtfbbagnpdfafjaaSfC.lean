import Derived.Test.YtfbbagnpdfafjaaSfA
set_option maxRecDepth 100000
namespace Go.Proofs.Ytfbbagnpdfafjaa
open Go.RowKit Go.Proofs
set_option maxHeartbeats 4000000 in
theorem new8_any (mem pat : Int) (f1 f2 : List Int) (ma ga : Option Addr) (mc gc B : Nat) (H : List (Option Blk)) (w0 w : World) (hO : Own B w0 w H) (h1 : SrcI H ma f1.length (gl f1)) (h2 : SrcI H ga f2.length (gl f2)) (hl1 : f1.length ≤ 4000000000000) (hl2 : f2.length ≤ 4000000000000) :
  Calls Try.prog 50 #[.agg #[iv mem, iv pat, .slice ma f1.length mc, .slice ga f2.length gc]] w fun e w' =>
   (CfgBad mem pat f1 f2 ∧ e = .returned (.tuple #[.pointer none, iv 1]) ∧ Own B w0 w' H) ∨ (¬ CfgBad mem pat f1 f2 ∧ ∃ A, e = .returned (.tuple #[ptr A.W, iv 0]) ∧ WAt B w0 w' A (MW.init mem pat f1 f2) [] H) := by
 refine calls_of_run (F := [(0, _)]) Try.func50 rfl Try.ntmps50 rfl rfl <| run_seq <| run_region <| rl_ow rfl (ow_box _ rfl rfl rfl rfl rfl hO) ?_
 rintro _ w1 ⟨b1, rfl, hO2, hs3⟩
 refine rl_v rfl rfl rfl (ov_assign rfl rfl) <| rl_v rfl rfl rfl (ov_assign rfl rfl) <| rl_nil <| run_seq <| run_region <| rl_v rfl rfl rfl (ov_assign rfl rfl) <| rl_nil <| run_seq <| run_seq <| run_region_join 51 (.bool (decide (CfgBad mem pat f1 f2))) [1] (fun hk4 => ?_) ?_
 ·refine rl_v rfl rfl rfl (ov_fieldS rfl Try.underlying104 rfl (fo := 0) rfl (by kernel_rfl) rfl) ?_
  refine rl_v rfl rfl rfl (ov_load rfl Try.underlying3 rfl rfl (by exact hO2.cellL 0 rfl (off := 0) rfl)) ?_
  refine rl_v rfl rfl rfl (ov_lss rfl rfl rfl) <| rl_v rfl rfl rfl (ov_move rfl rfl) ?_
  first | refine rl_split_dec 9 rfl (fun g1 => ?_) (fun g1 => ?_) | refine rl_split 9 rfl (fun g1 => ?_) (fun g1 => ?_)
  ·refine rl_gskip rfl rfl rfl rfl rfl rfl <| rl_gskip rfl rfl rfl rfl rfl rfl <| rl_gskip rfl rfl rfl rfl rfl rfl <| rl_v rfl rfl rfl (ov_pick_t rfl rfl rfl) <| rl_v rfl rfl rfl (ov_move rfl rfl) <| rl_gskip rfl rfl rfl rfl rfl rfl <| rl_gskip rfl rfl rfl rfl rfl rfl <| rl_gskip rfl rfl rfl rfl rfl rfl <| rl_v rfl rfl rfl (ov_pick_t rfl rfl rfl) <| rl_v rfl rfl rfl (ov_move rfl rfl) <| rl_gskip rfl rfl rfl rfl rfl rfl <| rl_gskip rfl rfl rfl rfl rfl rfl <| rl_gskip rfl rfl rfl rfl rfl rfl <| rl_v rfl rfl rfl (ov_pick_t rfl rfl rfl) <| rl_v rfl rfl rfl (ov_move rfl rfl) <| rl_gskip rfl rfl rfl rfl rfl rfl <| rl_gskip rfl rfl rfl rfl rfl rfl <| rl_gskip rfl rfl rfl rfl rfl rfl <| rl_gskip rfl rfl rfl rfl rfl rfl <| rl_gskip rfl rfl rfl rfl rfl rfl <| rl_gskip rfl rfl rfl rfl rfl rfl <| rl_v rfl rfl rfl (ov_pick_t rfl rfl rfl) <| rl_v rfl rfl rfl (ov_move rfl rfl) <| rl_gskip rfl rfl rfl rfl rfl rfl ?_
   refine rl_gskip rfl rfl rfl rfl rfl rfl <| rl_gskip rfl rfl rfl rfl rfl rfl <| rl_gskip rfl rfl rfl rfl rfl rfl <| rl_gskip rfl rfl rfl rfl rfl rfl <| rl_gskip rfl rfl rfl rfl rfl rfl <| rl_v rfl rfl rfl (ov_pick_t rfl rfl rfl) <| rl_v rfl rfl rfl (ov_move rfl rfl) <| rl_gskip rfl rfl rfl rfl rfl rfl <| rl_gskip rfl rfl rfl rfl rfl rfl <| rl_gskip rfl rfl rfl rfl rfl rfl <| rl_gskip rfl rfl rfl rfl rfl rfl <| rl_v rfl rfl rfl (ov_pick_t rfl rfl rfl) <| rl_v rfl rfl rfl (ov_move rfl rfl) <| rl_gskip rfl rfl rfl rfl rfl rfl <| rl_gskip rfl rfl rfl rfl rfl rfl <| rl_gskip rfl rfl rfl rfl rfl rfl <| rl_gskip rfl rfl rfl rfl rfl rfl <| rl_v rfl rfl rfl (ov_pick_t rfl rfl rfl) ?_
   refine rl_nil (hk4 _ (jbt rfl (by (unfold CfgBad; first | omega | grind))) (And.intro rfl trivial))
  ·refine rl_gv rfl rfl rfl rfl rfl (ov_fieldS rfl Try.underlying104 rfl (fo := 0) rfl (by kernel_rfl) rfl) ?_
   refine rl_gv rfl rfl rfl rfl rfl (ov_load rfl Try.underlying3 rfl rfl (by exact hO2.cellL 0 rfl (off := 0) rfl)) ?_
   refine rl_gv rfl rfl rfl rfl rfl (ov_gtr rfl rfl rfl) <| rl_v rfl rfl rfl (ov_pick_f rfl rfl rfl) <| rl_v rfl rfl rfl (ov_move rfl rfl) ?_
   first | refine rl_split_dec 14 rfl (fun g2 => ?_) (fun g2 => ?_) | refine rl_split 14 rfl (fun g2 => ?_) (fun g2 => ?_)
   ·refine rl_gskip rfl rfl rfl rfl rfl rfl <| rl_gskip rfl rfl rfl rfl rfl rfl <| rl_gskip rfl rfl rfl rfl rfl rfl <| rl_v rfl rfl rfl (ov_pick_t rfl rfl rfl) <| rl_v rfl rfl rfl (ov_move rfl rfl) <| rl_gskip rfl rfl rfl rfl rfl rfl <| rl_gskip rfl rfl rfl rfl rfl rfl <| rl_gskip rfl rfl rfl rfl rfl rfl <| rl_v rfl rfl rfl (ov_pick_t rfl rfl rfl) <| rl_v rfl rfl rfl (ov_move rfl rfl) <| rl_gskip rfl rfl rfl rfl rfl rfl <| rl_gskip rfl rfl rfl rfl rfl rfl <| rl_gskip rfl rfl rfl rfl rfl rfl <| rl_gskip rfl rfl rfl rfl rfl rfl <| rl_gskip rfl rfl rfl rfl rfl rfl <| rl_gskip rfl rfl rfl rfl rfl rfl <| rl_v rfl rfl rfl (ov_pick_t rfl rfl rfl) <| rl_v rfl rfl rfl (ov_move rfl rfl) <| rl_gskip rfl rfl rfl rfl rfl rfl <| rl_gskip rfl rfl rfl rfl rfl rfl <| rl_gskip rfl rfl rfl rfl rfl rfl <| rl_gskip rfl rfl rfl rfl rfl rfl <| rl_gskip rfl rfl rfl rfl rfl rfl <| rl_gskip rfl rfl rfl rfl rfl rfl ?_
    refine rl_v rfl rfl rfl (ov_pick_t rfl rfl rfl) <| rl_v rfl rfl rfl (ov_move rfl rfl) <| rl_gskip rfl rfl rfl rfl rfl rfl <| rl_gskip rfl rfl rfl rfl rfl rfl <| rl_gskip rfl rfl rfl rfl rfl rfl <| rl_gskip rfl rfl rfl rfl rfl rfl <| rl_v rfl rfl rfl (ov_pick_t rfl rfl rfl) <| rl_v rfl rfl rfl (ov_move rfl rfl) <| rl_gskip rfl rfl rfl rfl rfl rfl <| rl_gskip rfl rfl rfl rfl rfl rfl <| rl_gskip rfl rfl rfl rfl rfl rfl <| rl_gskip rfl rfl rfl rfl rfl rfl <| rl_v rfl rfl rfl (ov_pick_t rfl rfl rfl) ?_
    refine rl_nil (hk4 _ (jbt rfl (by (unfold CfgBad; first | omega | grind))) (And.intro rfl trivial))
   ·refine rl_gv rfl rfl rfl rfl rfl (ov_fieldS rfl Try.underlying104 rfl (fo := 1) rfl (by kernel_rfl) rfl) ?_
    refine rl_gv rfl rfl rfl rfl rfl (ov_load rfl Try.underlying3 rfl rfl (by exact hO2.cellL 0 rfl (off := 1) rfl)) ?_
    refine rl_gv rfl rfl rfl rfl rfl (ov_lss rfl rfl rfl) <| rl_v rfl rfl rfl (ov_pick_f rfl rfl rfl) <| rl_v rfl rfl rfl (ov_move rfl rfl) ?_
    first | refine rl_split_dec 19 rfl (fun g3 => ?_) (fun g3 => ?_) | refine rl_split 19 rfl (fun g3 => ?_) (fun g3 => ?_)
    ·refine rl_gskip rfl rfl rfl rfl rfl rfl <| rl_gskip rfl rfl rfl rfl rfl rfl <| rl_gskip rfl rfl rfl rfl rfl rfl <| rl_v rfl rfl rfl (ov_pick_t rfl rfl rfl) <| rl_v rfl rfl rfl (ov_move rfl rfl) <| rl_gskip rfl rfl rfl rfl rfl rfl <| rl_gskip rfl rfl rfl rfl rfl rfl <| rl_gskip rfl rfl rfl rfl rfl rfl <| rl_gskip rfl rfl rfl rfl rfl rfl <| rl_gskip rfl rfl rfl rfl rfl rfl <| rl_gskip rfl rfl rfl rfl rfl rfl <| rl_v rfl rfl rfl (ov_pick_t rfl rfl rfl) <| rl_v rfl rfl rfl (ov_move rfl rfl) <| rl_gskip rfl rfl rfl rfl rfl rfl <| rl_gskip rfl rfl rfl rfl rfl rfl <| rl_gskip rfl rfl rfl rfl rfl rfl <| rl_gskip rfl rfl rfl rfl rfl rfl <| rl_gskip rfl rfl rfl rfl rfl rfl <| rl_gskip rfl rfl rfl rfl rfl rfl <| rl_v rfl rfl rfl (ov_pick_t rfl rfl rfl) <| rl_v rfl rfl rfl (ov_move rfl rfl) <| rl_gskip rfl rfl rfl rfl rfl rfl <| rl_gskip rfl rfl rfl rfl rfl rfl <| rl_gskip rfl rfl rfl rfl rfl rfl ?_
     refine rl_gskip rfl rfl rfl rfl rfl rfl <| rl_v rfl rfl rfl (ov_pick_t rfl rfl rfl) <| rl_v rfl rfl rfl (ov_move rfl rfl) <| rl_gskip rfl rfl rfl rfl rfl rfl <| rl_gskip rfl rfl rfl rfl rfl rfl <| rl_gskip rfl rfl rfl rfl rfl rfl <| rl_gskip rfl rfl rfl rfl rfl rfl <| rl_v rfl rfl rfl (ov_pick_t rfl rfl rfl) ?_
     refine rl_nil (hk4 _ (jbt rfl (by (unfold CfgBad; first | omega | grind))) (And.intro rfl trivial))
    ·refine rl_gv rfl rfl rfl rfl rfl (ov_fieldS rfl Try.underlying104 rfl (fo := 1) rfl (by kernel_rfl) rfl) ?_
     refine rl_gv rfl rfl rfl rfl rfl (ov_load rfl Try.underlying3 rfl rfl (by exact hO2.cellL 0 rfl (off := 1) rfl)) ?_
     refine rl_gv rfl rfl rfl rfl rfl (ov_gtr rfl rfl rfl) <| rl_v rfl rfl rfl (ov_pick_f rfl rfl rfl) <| rl_v rfl rfl rfl (ov_move rfl rfl) ?_
     first | refine rl_split_dec 24 rfl (fun g4 => ?_) (fun g4 => ?_) | refine rl_split 24 rfl (fun g4 => ?_) (fun g4 => ?_)
     ·refine rl_gskip rfl rfl rfl rfl rfl rfl <| rl_gskip rfl rfl rfl rfl rfl rfl <| rl_gskip rfl rfl rfl rfl rfl rfl <| rl_gskip rfl rfl rfl rfl rfl rfl <| rl_gskip rfl rfl rfl rfl rfl rfl <| rl_gskip rfl rfl rfl rfl rfl rfl <| rl_v rfl rfl rfl (ov_pick_t rfl rfl rfl) <| rl_v rfl rfl rfl (ov_move rfl rfl) <| rl_gskip rfl rfl rfl rfl rfl rfl <| rl_gskip rfl rfl rfl rfl rfl rfl <| rl_gskip rfl rfl rfl rfl rfl rfl <| rl_gskip rfl rfl rfl rfl rfl rfl <| rl_gskip rfl rfl rfl rfl rfl rfl <| rl_gskip rfl rfl rfl rfl rfl rfl <| rl_v rfl rfl rfl (ov_pick_t rfl rfl rfl) <| rl_v rfl rfl rfl (ov_move rfl rfl) <| rl_gskip rfl rfl rfl rfl rfl rfl <| rl_gskip rfl rfl rfl rfl rfl rfl <| rl_gskip rfl rfl rfl rfl rfl rfl <| rl_gskip rfl rfl rfl rfl rfl rfl <| rl_v rfl rfl rfl (ov_pick_t rfl rfl rfl) <| rl_v rfl rfl rfl (ov_move rfl rfl) <| rl_gskip rfl rfl rfl rfl rfl rfl <| rl_gskip rfl rfl rfl rfl rfl rfl ?_
      refine rl_gskip rfl rfl rfl rfl rfl rfl <| rl_gskip rfl rfl rfl rfl rfl rfl <| rl_v rfl rfl rfl (ov_pick_t rfl rfl rfl) ?_
      refine rl_nil (hk4 _ (jbt rfl (by (unfold CfgBad; first | omega | grind))) (And.intro rfl trivial))
     ·refine rl_gv rfl rfl rfl rfl rfl (ov_fieldS rfl Try.underlying104 rfl (fo := 2) rfl (by kernel_rfl) rfl) ?_
      refine rl_gv rfl rfl rfl rfl rfl (ov_load rfl Try.underlying22 rfl rfl (by exact hO2.cellL 0 rfl (off := 2) rfl)) ?_
      refine rl_gv rfl rfl rfl rfl rfl (ov_len rfl Try.underlying22 rfl) <| rl_gv rfl rfl rfl rfl rfl (ov_fieldS rfl Try.underlying104 rfl (fo := 0) rfl (by kernel_rfl) rfl) ?_
      refine rl_gv rfl rfl rfl rfl rfl (ov_load rfl Try.underlying3 rfl rfl (by exact hO2.cellL 0 rfl (off := 0) rfl)) ?_
      refine rl_gv rfl rfl rfl rfl rfl (ov_neq rfl rfl rfl) <| rl_v rfl rfl rfl (ov_pick_f rfl rfl rfl) <| rl_v rfl rfl rfl (ov_move rfl rfl) ?_
      first | refine rl_split_dec 32 rfl (fun g5 => ?_) (fun g5 => ?_) | refine rl_split 32 rfl (fun g5 => ?_) (fun g5 => ?_)
      ·refine rl_gskip rfl rfl rfl rfl rfl rfl <| rl_gskip rfl rfl rfl rfl rfl rfl <| rl_gskip rfl rfl rfl rfl rfl rfl <| rl_gskip rfl rfl rfl rfl rfl rfl <| rl_gskip rfl rfl rfl rfl rfl rfl <| rl_gskip rfl rfl rfl rfl rfl rfl <| rl_v rfl rfl rfl (ov_pick_t rfl rfl rfl) <| rl_v rfl rfl rfl (ov_move rfl rfl) <| rl_gskip rfl rfl rfl rfl rfl rfl <| rl_gskip rfl rfl rfl rfl rfl rfl <| rl_gskip rfl rfl rfl rfl rfl rfl <| rl_gskip rfl rfl rfl rfl rfl rfl <| rl_v rfl rfl rfl (ov_pick_t rfl rfl rfl) <| rl_v rfl rfl rfl (ov_move rfl rfl) <| rl_gskip rfl rfl rfl rfl rfl rfl <| rl_gskip rfl rfl rfl rfl rfl rfl <| rl_gskip rfl rfl rfl rfl rfl rfl <| rl_gskip rfl rfl rfl rfl rfl rfl <| rl_v rfl rfl rfl (ov_pick_t rfl rfl rfl) ?_
       refine rl_nil (hk4 _ (jbt rfl (by (unfold CfgBad; first | omega | grind))) (And.intro rfl trivial))
      ·refine rl_gv rfl rfl rfl rfl rfl (ov_fieldS rfl Try.underlying104 rfl (fo := 3) rfl (by kernel_rfl) rfl) ?_
       refine rl_gv rfl rfl rfl rfl rfl (ov_load rfl Try.underlying22 rfl rfl (by exact hO2.cellL 0 rfl (off := 3) rfl)) ?_
       refine rl_gv rfl rfl rfl rfl rfl (ov_len rfl Try.underlying22 rfl) <| rl_gv rfl rfl rfl rfl rfl (ov_fieldS rfl Try.underlying104 rfl (fo := 0) rfl (by kernel_rfl) rfl) ?_
       refine rl_gv rfl rfl rfl rfl rfl (ov_load rfl Try.underlying3 rfl rfl (by exact hO2.cellL 0 rfl (off := 0) rfl)) ?_
       refine rl_gv rfl rfl rfl rfl rfl (ov_neq rfl rfl rfl) <| rl_v rfl rfl rfl (ov_pick_f rfl rfl rfl) <| rl_v rfl rfl rfl (ov_move rfl rfl) ?_
       first | refine rl_split_dec 40 rfl (fun g6 => ?_) (fun g6 => ?_) | refine rl_split 40 rfl (fun g6 => ?_) (fun g6 => ?_)
       ·refine rl_gskip rfl rfl rfl rfl rfl rfl <| rl_gskip rfl rfl rfl rfl rfl rfl <| rl_gskip rfl rfl rfl rfl rfl rfl <| rl_gskip rfl rfl rfl rfl rfl rfl <| rl_v rfl rfl rfl (ov_pick_t rfl rfl rfl) <| rl_v rfl rfl rfl (ov_move rfl rfl) <| rl_gskip rfl rfl rfl rfl rfl rfl <| rl_gskip rfl rfl rfl rfl rfl rfl <| rl_gskip rfl rfl rfl rfl rfl rfl <| rl_gskip rfl rfl rfl rfl rfl rfl <| rl_v rfl rfl rfl (ov_pick_t rfl rfl rfl) ?_
        refine rl_nil (hk4 _ (jbt rfl (by (unfold CfgBad; first | omega | grind))) (And.intro rfl trivial))
       ·refine rl_gv rfl rfl rfl rfl rfl (ov_fieldS rfl Try.underlying104 rfl (fo := 2) rfl (by kernel_rfl) rfl) ?_
        refine rl_gv rfl rfl rfl rfl rfl (ov_load rfl Try.underlying22 rfl rfl (by exact hO2.cellL 0 rfl (off := 2) rfl)) ?_
        refine rl_gv rfl rfl rfl rfl rfl (ov_move rfl rfl) ?_
        refine rl_gcall callable_57 rfl rfl rfl rfl rfl rfl rfl rfl (containsFuncL_any ma f1.length mc B (gl f1) _ w0 w1 hO2 (fun B w0 w hO => h1 B w0 w hO.tail) hl1) (fun e11 w12 hp13 => ?_)
        obtain ⟨rfl, rfl⟩ := hp13
        refine ⟨_, rfl, ?_⟩
        refine rl_v rfl rfl rfl (ov_pick_f rfl rfl rfl) <| rl_v rfl rfl rfl (ov_move rfl rfl) ?_
        first | refine rl_split_dec 46 rfl (fun g7 => ?_) (fun g7 => ?_) | refine rl_split 46 rfl (fun g7 => ?_) (fun g7 => ?_)
        ·refine rl_gskip rfl rfl rfl rfl rfl rfl <| rl_gskip rfl rfl rfl rfl rfl rfl <| rl_gskip rfl rfl rfl rfl rfl rfl <| rl_gskip rfl rfl rfl rfl rfl rfl <| rl_v rfl rfl rfl (ov_pick_t rfl rfl rfl) ?_
         refine rl_nil (hk4 _ (jbt rfl (by (unfold CfgBad; first | omega | grind))) (And.intro rfl trivial))
        ·refine rl_gv rfl rfl rfl rfl rfl (ov_fieldS rfl Try.underlying104 rfl (fo := 3) rfl (by kernel_rfl) rfl) ?_
         refine rl_gv rfl rfl rfl rfl rfl (ov_load rfl Try.underlying22 rfl rfl (by exact hO2.cellL 0 rfl (off := 3) rfl)) ?_
         refine rl_gv rfl rfl rfl rfl rfl (ov_move rfl rfl) ?_
         refine rl_gcall callable_57 rfl rfl rfl rfl rfl rfl rfl rfl (containsFuncL_any ga f2.length gc B (gl f2) _ w0 w12 hO2 (fun B w0 w hO => h2 B w0 w hO.tail) hl2) (fun e15 w16 hp17 => ?_)
         obtain ⟨rfl, rfl⟩ := hp17
         refine ⟨_, rfl, ?_⟩
         refine rl_v rfl rfl rfl (ov_pick_f rfl rfl rfl) ?_
         refine rl_nil (hk4 _ (jbd rfl (by (unfold CfgBad; first | omega | grind))) (And.intro rfl trivial))
 ·show Run _ _ _ _ [(51, _), (1, _)] _ _
  first | refine run_cond_dec rfl (fun bad => ?_) (fun badn => ?_) | refine run_cond rfl (fun bad => ?_) (fun badn => ?_)
  ·refine run_seq <| run_region <| rl_v rfl rfl rfl (ov_assign rfl rfl) <| rl_v rfl rfl rfl (ov_assign rfl rfl) <| rl_nil <| run_ret Try.func50 (res2 Try.results50 rfl rfl) ?_
   exact .inl ⟨bad, rfl, hO2.tail⟩
  ·refine run_skip <| run_seq <| run_region <| rl_v rfl rfl rfl (ov_fieldS rfl Try.underlying104 rfl (fo := 0) rfl (by kernel_rfl) rfl) ?_
   refine rl_v rfl rfl rfl (ov_load rfl Try.underlying3 rfl rfl (by exact hO2.cellL 0 rfl (off := 0) rfl)) ?_
   refine rl_v rfl rfl rfl (ov_fieldS rfl Try.underlying104 rfl (fo := 1) rfl (by kernel_rfl) rfl) ?_
   refine rl_v rfl rfl rfl (ov_load rfl Try.underlying3 rfl rfl (by exact hO2.cellL 0 rfl (off := 1) rfl)) ?_
   refine rl_v rfl rfl rfl (ov_buildL rfl lay_104 rfl (us := [_, _, _, _]) rfl) <| rl_v rfl rfl rfl (ov_buildWorld rfl rfl) <| rl_ow rfl (ow_box _ rfl rfl rfl rfl rfl hO2) ?_
   rintro _ w18 ⟨bw, rfl, hO19, hs20⟩
   refine rl_v rfl rfl rfl (ov_assign rfl rfl) <| rl_nil <| run_seq <| run_late (fun w' => Own B w0 w' ([some (lch b1 104 [iv mem, iv pat, .slice ma f1.length mc, .slice ga f2.length gc])])) 23 mixed ?_
   have hO22 := hO19.drew
   generalize World.drew w18 = w21 at hO22 ⊢
   have hS23 : Own B w0 w21 ([some (lch b1 104 [iv mem, iv pat, .slice ma f1.length mc, .slice ga f2.length gc])]) := by exact hO22.sub (List.singleton_sublist.2 (by simp))
   refine rhl_v 0 rfl (by kernel_rfl) rfl rfl rfl hS23 (fun _ hS => ov_move rfl rfl) ?_
   refine rhl_v 1 rfl (by kernel_rfl) rfl rfl rfl hS23 (fun _ hS => ov_move rfl rfl) ?_
   refine rhl_v 6 rfl (by kernel_rfl) rfl rfl rfl hS23 (fun _ hS => ov_move rfl rfl) ?_
   refine rhl_v 7 rfl (by kernel_rfl) rfl rfl rfl hS23 (fun _ hS => ov_fieldS rfl Try.underlying104 rfl (fo := 2) rfl (by kernel_rfl) rfl) ?_
   refine rhl_v 8 rfl (by kernel_rfl) rfl rfl rfl hS23 (fun _ hS => ov_load rfl Try.underlying22 rfl rfl (by exact hS.cellL 0 rfl (off := 2) rfl)) ?_
   refine rhl_v 13 rfl (by kernel_rfl) rfl rfl rfl hS23 (fun _ hS => ov_move rfl rfl) ?_
   refine rhl_v 14 rfl (by kernel_rfl) rfl rfl rfl hS23 (fun _ hS => ov_fieldS rfl Try.underlying104 rfl (fo := 3) rfl (by kernel_rfl) rfl) ?_
   refine rhl_v 15 rfl (by kernel_rfl) rfl rfl rfl hS23 (fun _ hS => ov_load rfl Try.underlying22 rfl rfl (by exact hS.cellL 0 rfl (off := 3) rfl)) ?_
   refine rhl_any2 2 9 (by kernel_rfl) ?_ ?_
   ·refine rcl_op rfl rfl (ow_makemap rfl rfl rfl hO22) ?_
    rintro _ w24 ⟨bm, rfl, hO25, hs26⟩
    have hS27 : Own B w0 w24 ([some (lch b1 104 [iv mem, iv pat, .slice ma f1.length mc, .slice ga f2.length gc])]) := by exact hO25.sub (List.singleton_sublist.2 (by simp))
    refine ⟨hS27, ?_⟩
    refine rhl_v 3 rfl (by kernel_rfl) rfl rfl rfl hS27 (fun _ hS => ov_buildL rfl lay_191 rfl (us := [_, _, _, _, _, _]) rfl) ?_
    refine rhl_any2 4 9 (by kernel_rfl) ?_ ?_
    ·refine rcl_op rfl rfl (ow_box _ rfl rfl rfl rfl rfl hO25) ?_
     rintro _ w28 ⟨bc, rfl, hO29, hs30⟩
     have hS31 : Own B w0 w28 ([some (lch b1 104 [iv mem, iv pat, .slice ma f1.length mc, .slice ga f2.length gc])]) := by exact hO29.sub (List.singleton_sublist.2 (by simp))
     refine ⟨hS31, ?_⟩
     refine rhl_v 5 rfl (by kernel_rfl) rfl rfl rfl hS31 (fun _ hS => ov_iface rfl Try.underlying185 (by intro _ h; cases h) rfl) ?_
     refine rhl_any1 9 (by kernel_rfl) ?_
     refine rcl_op rfl rfl (ow_call2 callable_72 rfl rfl rfl rfl rfl (cloneI_any ma f1.length mc B (gl f1) _ w0 w28 hO29 (fun B w0 w hO => h1 B w0 w (hO.sub (.cons _ (.cons _ (.cons _ (.cons _ (.refl _))))))) hl1) (by intro e w' hp; obtain ⟨v1, c1, rfl, hr1, hOa⟩ := hp; exact ⟨_, rfl⟩)) ?_
     rintro _ w34 ⟨_, v32, he35, rfl, hp33⟩
     obtain ⟨v1, c1, rfl, hr1, hOa⟩ := hp33
     injection he35 with he35; subst he35
     have hS36 : Own B w0 w34 ([some (lch b1 104 [iv mem, iv pat, .slice ma f1.length mc, .slice ga f2.length gc])]) := by exact hOa.sub (List.singleton_sublist.2 (by simp))
     refine ⟨hS36, ?_⟩
     obtain ⟨a1, p1, rfl⟩ := hr1.val
     refine rhl_v 10 rfl (by kernel_rfl) rfl rfl rfl hS36 (fun _ hS => ov_buildL rfl lay_194 rfl (us := [_, _, _, _, _, _, _]) rfl) ?_
     refine rhl_any2 11 16 (by kernel_rfl) ?_ ?_
     ·refine rcl_op rfl rfl (ow_box _ rfl rfl rfl rfl rfl hOa) ?_
      rintro _ w37 ⟨bs1, rfl, hO38, hs39⟩
      have hS40 : Own B w0 w37 ([some (lch b1 104 [iv mem, iv pat, .slice ma f1.length mc, .slice ga f2.length gc])]) := by exact hO38.sub (List.singleton_sublist.2 (by simp))
      refine ⟨hS40, ?_⟩
      refine rhl_v 12 rfl (by kernel_rfl) rfl rfl rfl hS40 (fun _ hS => ov_iface rfl Try.underlying192 (by intro _ h; cases h) rfl) ?_
      refine rhl_any1 16 (by kernel_rfl) ?_
      refine rcl_op rfl rfl (ow_call2 callable_72 rfl rfl rfl rfl rfl (cloneI_any ga f2.length gc B (gl f2) _ w0 w37 hO38 (fun B w0 w hO => h2 B w0 w (hO.sub (.cons _ (.cons _ (.cons _ (.cons _ (.cons _ (.cons _ (.refl _))))))))) hl2) (by intro e w' hp; obtain ⟨v2, c2, rfl, hr2, hOb⟩ := hp; exact ⟨_, rfl⟩)) ?_
      rintro _ w43 ⟨_, v41, he44, rfl, hp42⟩
      obtain ⟨v2, c2, rfl, hr2, hOb⟩ := hp42
      injection he44 with he44; subst he44
      have hS45 : Own B w0 w43 ([some (lch b1 104 [iv mem, iv pat, .slice ma f1.length mc, .slice ga f2.length gc])]) := by exact hOb.sub (List.singleton_sublist.2 (by simp))
      refine ⟨hS45, ?_⟩
      obtain ⟨a2, p2, rfl⟩ := hr2.val
      refine rhl_v 17 rfl (by kernel_rfl) rfl rfl rfl hS45 (fun _ hS => ov_buildL rfl lay_194 rfl (us := [_, _, _, _, _, _, _]) rfl) ?_
      refine rhl_any1 18 (by kernel_rfl) ?_
      refine rcl_op rfl rfl (ow_box _ rfl rfl rfl rfl rfl hOb) ?_
      rintro _ w46 ⟨bs2, rfl, hO47, hs48⟩
      have hS49 : Own B w0 w46 ([some (lch b1 104 [iv mem, iv pat, .slice ma f1.length mc, .slice ga f2.length gc])]) := by exact hO47.sub (List.singleton_sublist.2 (by simp))
      refine ⟨hS49, ?_⟩
      refine rhl_v 19 rfl (by kernel_rfl) rfl rfl rfl hS49 (fun _ hS => ov_iface rfl Try.underlying192 (by intro _ h; cases h) rfl) ?_
      refine rhl_v 20 rfl (by kernel_rfl) rfl rfl rfl hS49 (fun _ hS => ov_buildNodes rfl rfl rfl rfl) ?_
      refine rhl_any1 21 (by kernel_rfl) ?_
      refine rcl_op rfl rfl (ow_v rfl rfl (ov_nil rfl rfl)) ?_
      rintro _ _ ⟨rfl, hw50⟩
      replace hw50 := hw50.symm; subst hw50
      refine ⟨hS49, ?_⟩
      refine rhl_any1 22 (by kernel_rfl) ?_
      refine rcl_op rfl rfl (ow_v rfl rfl (ov_fieldS rfl Try.underlying184 rfl (fo := 5) rfl (by kernel_rfl) rfl)) ?_
      rintro _ _ ⟨rfl, hw51⟩
      replace hw51 := hw51.symm; subst hw51
      refine ⟨hS49, ?_⟩
      refine rhl_any1 23 (by kernel_rfl) ?_
      refine rcl_last rfl rfl (ow_storeP rfl rfl (by kernel_rfl) hO47 6 rfl rfl rfl rfl rfl rfl) ?_
      rintro _ w52 ⟨rfl, hO53, hs54⟩
      refine rhl_done (by kernel_rfl) ?_
      refine run_seq <| run_region <| rl_v rfl rfl rfl (ov_move rfl rfl) <| rl_v rfl rfl rfl (ov_assign rfl rfl) <| rl_v rfl rfl rfl (ov_assign rfl rfl) <| rl_nil <| run_ret Try.func50 (res2 Try.results50 rfl rfl) ?_
      exact .inr ⟨badn, ⟨bw, bc, bs1, bs2⟩, rfl, freshWorld hr1 hr2 (((((((hO53.perm (perm_front (k := 1) rfl)).perm (perm_front (k := 3) rfl)).perm (perm_front (k := 5) rfl)).perm (perm_front (k := 3) rfl)).perm (perm_front (k := 4) rfl)).perm (perm_front (k := 5) rfl)).perm (perm_front (k := 6) rfl))⟩
     ·refine rcl_op rfl rfl (ow_call2 callable_72 rfl rfl rfl rfl rfl (cloneI_any ga f2.length gc B (gl f2) _ w0 w34 hOa (fun B w0 w hO => h2 B w0 w (hO.sub (.cons _ (.cons _ (.cons _ (.cons _ (.cons _ (.refl _)))))))) hl2) (by intro e w' hp; obtain ⟨v2, c2, rfl, hr2, hOb⟩ := hp; exact ⟨_, rfl⟩)) ?_
      rintro _ w57 ⟨_, v55, he58, rfl, hp56⟩
      obtain ⟨v2, c2, rfl, hr2, hOb⟩ := hp56
      injection he58 with he58; subst he58
      have hS59 : Own B w0 w57 ([some (lch b1 104 [iv mem, iv pat, .slice ma f1.length mc, .slice ga f2.length gc])]) := by exact hOb.sub (List.singleton_sublist.2 (by simp))
      refine ⟨hS59, ?_⟩
      obtain ⟨a2, p2, rfl⟩ := hr2.val
      refine rhl_v 17 rfl (by kernel_rfl) rfl rfl rfl hS59 (fun _ hS => ov_buildL rfl lay_194 rfl (us := [_, _, _, _, _, _, _]) rfl) ?_
      refine rhl_any2 11 18 (by kernel_rfl) ?_ ?_
      ·refine rcl_op rfl rfl (ow_box _ rfl rfl rfl rfl rfl hOb) ?_
       rintro _ w60 ⟨bs1, rfl, hO61, hs62⟩
       have hS63 : Own B w0 w60 ([some (lch b1 104 [iv mem, iv pat, .slice ma f1.length mc, .slice ga f2.length gc])]) := by exact hO61.sub (List.singleton_sublist.2 (by simp))
       refine ⟨hS63, ?_⟩
       refine rhl_v 12 rfl (by kernel_rfl) rfl rfl rfl hS63 (fun _ hS => ov_iface rfl Try.underlying192 (by intro _ h; cases h) rfl) ?_
       refine rhl_any1 18 (by kernel_rfl) ?_
       refine rcl_op rfl rfl (ow_box _ rfl rfl rfl rfl rfl hO61) ?_
       rintro _ w64 ⟨bs2, rfl, hO65, hs66⟩
       have hS67 : Own B w0 w64 ([some (lch b1 104 [iv mem, iv pat, .slice ma f1.length mc, .slice ga f2.length gc])]) := by exact hO65.sub (List.singleton_sublist.2 (by simp))
       refine ⟨hS67, ?_⟩
       refine rhl_v 19 rfl (by kernel_rfl) rfl rfl rfl hS67 (fun _ hS => ov_iface rfl Try.underlying192 (by intro _ h; cases h) rfl) ?_
       refine rhl_v 20 rfl (by kernel_rfl) rfl rfl rfl hS67 (fun _ hS => ov_buildNodes rfl rfl rfl rfl) ?_
       refine rhl_any1 21 (by kernel_rfl) ?_
       refine rcl_op rfl rfl (ow_v rfl rfl (ov_nil rfl rfl)) ?_
       rintro _ _ ⟨rfl, hw68⟩
       replace hw68 := hw68.symm; subst hw68
       refine ⟨hS67, ?_⟩
       refine rhl_any1 22 (by kernel_rfl) ?_
       refine rcl_op rfl rfl (ow_v rfl rfl (ov_fieldS rfl Try.underlying184 rfl (fo := 5) rfl (by kernel_rfl) rfl)) ?_
       rintro _ _ ⟨rfl, hw69⟩
       replace hw69 := hw69.symm; subst hw69
       refine ⟨hS67, ?_⟩
       refine rhl_any1 23 (by kernel_rfl) ?_
       refine rcl_last rfl rfl (ow_storeP rfl rfl (by kernel_rfl) hO65 6 rfl rfl rfl rfl rfl rfl) ?_
       rintro _ w70 ⟨rfl, hO71, hs72⟩
       refine rhl_done (by kernel_rfl) ?_
       refine run_seq <| run_region <| rl_v rfl rfl rfl (ov_move rfl rfl) <| rl_v rfl rfl rfl (ov_assign rfl rfl) <| rl_v rfl rfl rfl (ov_assign rfl rfl) <| rl_nil <| run_ret Try.func50 (res2 Try.results50 rfl rfl) ?_
       exact .inr ⟨badn, ⟨bw, bc, bs1, bs2⟩, rfl, freshWorld hr1 hr2 (((((((hO71.perm (perm_front (k := 2) rfl)).perm (perm_front (k := 3) rfl)).perm (perm_front (k := 5) rfl)).perm (perm_front (k := 3) rfl)).perm (perm_front (k := 4) rfl)).perm (perm_front (k := 5) rfl)).perm (perm_front (k := 6) rfl))⟩
      ·refine rcl_op rfl rfl (ow_box _ rfl rfl rfl rfl rfl hOb) ?_
       rintro _ w73 ⟨bs2, rfl, hO74, hs75⟩
       have hS76 : Own B w0 w73 ([some (lch b1 104 [iv mem, iv pat, .slice ma f1.length mc, .slice ga f2.length gc])]) := by exact hO74.sub (List.singleton_sublist.2 (by simp))
       refine ⟨hS76, ?_⟩
       refine rhl_v 19 rfl (by kernel_rfl) rfl rfl rfl hS76 (fun _ hS => ov_iface rfl Try.underlying192 (by intro _ h; cases h) rfl) ?_
       refine rhl_any1 11 (by kernel_rfl) ?_
       refine rcl_op rfl rfl (ow_box _ rfl rfl rfl rfl rfl hO74) ?_
       rintro _ w77 ⟨bs1, rfl, hO78, hs79⟩
       have hS80 : Own B w0 w77 ([some (lch b1 104 [iv mem, iv pat, .slice ma f1.length mc, .slice ga f2.length gc])]) := by exact hO78.sub (List.singleton_sublist.2 (by simp))
       refine ⟨hS80, ?_⟩
       refine rhl_v 12 rfl (by kernel_rfl) rfl rfl rfl hS80 (fun _ hS => ov_iface rfl Try.underlying192 (by intro _ h; cases h) rfl) ?_
       refine rhl_v 20 rfl (by kernel_rfl) rfl rfl rfl hS80 (fun _ hS => ov_buildNodes rfl rfl rfl rfl) ?_
       refine rhl_any1 21 (by kernel_rfl) ?_
       refine rcl_op rfl rfl (ow_v rfl rfl (ov_nil rfl rfl)) ?_
       rintro _ _ ⟨rfl, hw81⟩
       replace hw81 := hw81.symm; subst hw81
       refine ⟨hS80, ?_⟩
       refine rhl_any1 22 (by kernel_rfl) ?_
       refine rcl_op rfl rfl (ow_v rfl rfl (ov_fieldS rfl Try.underlying184 rfl (fo := 5) rfl (by kernel_rfl) rfl)) ?_
       rintro _ _ ⟨rfl, hw82⟩
       replace hw82 := hw82.symm; subst hw82
       refine ⟨hS80, ?_⟩
       refine rhl_any1 23 (by kernel_rfl) ?_
       refine rcl_last rfl rfl (ow_storeP rfl rfl (by kernel_rfl) hO78 6 rfl rfl rfl rfl rfl rfl) ?_
       rintro _ w83 ⟨rfl, hO84, hs85⟩
       refine rhl_done (by kernel_rfl) ?_
       refine run_seq <| run_region <| rl_v rfl rfl rfl (ov_move rfl rfl) <| rl_v rfl rfl rfl (ov_assign rfl rfl) <| rl_v rfl rfl rfl (ov_assign rfl rfl) <| rl_nil <| run_ret Try.func50 (res2 Try.results50 rfl rfl) ?_
       exact .inr ⟨badn, ⟨bw, bc, bs1, bs2⟩, rfl, freshWorld hr1 hr2 (((((((hO84.perm (perm_front (k := 2) rfl)).perm (perm_front (k := 3) rfl)).perm (perm_front (k := 5) rfl)).perm (perm_front (k := 4) rfl)).perm (perm_front (k := 4) rfl)).perm (perm_front (k := 5) rfl)).perm (perm_front (k := 6) rfl))⟩
    ·refine rcl_op rfl rfl (ow_call2 callable_72 rfl rfl rfl rfl rfl (cloneI_any ma f1.length mc B (gl f1) _ w0 w24 hO25 (fun B w0 w hO => h1 B w0 w (hO.sub (.cons _ (.cons _ (.cons _ (.refl _)))))) hl1) (by intro e w' hp; obtain ⟨v1, c1, rfl, hr1, hOa⟩ := hp; exact ⟨_, rfl⟩)) ?_
     rintro _ w88 ⟨_, v86, he89, rfl, hp87⟩
     obtain ⟨v1, c1, rfl, hr1, hOa⟩ := hp87
     injection he89 with he89; subst he89
     have hS90 : Own B w0 w88 ([some (lch b1 104 [iv mem, iv pat, .slice ma f1.length mc, .slice ga f2.length gc])]) := by exact hOa.sub (List.singleton_sublist.2 (by simp))
     refine ⟨hS90, ?_⟩
     obtain ⟨a1, p1, rfl⟩ := hr1.val
     refine rhl_v 10 rfl (by kernel_rfl) rfl rfl rfl hS90 (fun _ hS => ov_buildL rfl lay_194 rfl (us := [_, _, _, _, _, _, _]) rfl) ?_
     refine rhl_any3 4 11 16 (by kernel_rfl) ?_ ?_ ?_
     ·refine rcl_op rfl rfl (ow_box _ rfl rfl rfl rfl rfl hOa) ?_
      rintro _ w91 ⟨bc, rfl, hO92, hs93⟩
      have hS94 : Own B w0 w91 ([some (lch b1 104 [iv mem, iv pat, .slice ma f1.length mc, .slice ga f2.length gc])]) := by exact hO92.sub (List.singleton_sublist.2 (by simp))
      refine ⟨hS94, ?_⟩
      refine rhl_v 5 rfl (by kernel_rfl) rfl rfl rfl hS94 (fun _ hS => ov_iface rfl Try.underlying185 (by intro _ h; cases h) rfl) ?_
      refine rhl_any2 11 16 (by kernel_rfl) ?_ ?_
      ·refine rcl_op rfl rfl (ow_box _ rfl rfl rfl rfl rfl hO92) ?_
       rintro _ w95 ⟨bs1, rfl, hO96, hs97⟩
       have hS98 : Own B w0 w95 ([some (lch b1 104 [iv mem, iv pat, .slice ma f1.length mc, .slice ga f2.length gc])]) := by exact hO96.sub (List.singleton_sublist.2 (by simp))
       refine ⟨hS98, ?_⟩
       refine rhl_v 12 rfl (by kernel_rfl) rfl rfl rfl hS98 (fun _ hS => ov_iface rfl Try.underlying192 (by intro _ h; cases h) rfl) ?_
       refine rhl_any1 16 (by kernel_rfl) ?_
       refine rcl_op rfl rfl (ow_call2 callable_72 rfl rfl rfl rfl rfl (cloneI_any ga f2.length gc B (gl f2) _ w0 w95 hO96 (fun B w0 w hO => h2 B w0 w (hO.sub (.cons _ (.cons _ (.cons _ (.cons _ (.cons _ (.cons _ (.refl _))))))))) hl2) (by intro e w' hp; obtain ⟨v2, c2, rfl, hr2, hOb⟩ := hp; exact ⟨_, rfl⟩)) ?_
       rintro _ w101 ⟨_, v99, he102, rfl, hp100⟩
       obtain ⟨v2, c2, rfl, hr2, hOb⟩ := hp100
       injection he102 with he102; subst he102
       have hS103 : Own B w0 w101 ([some (lch b1 104 [iv mem, iv pat, .slice ma f1.length mc, .slice ga f2.length gc])]) := by exact hOb.sub (List.singleton_sublist.2 (by simp))
       refine ⟨hS103, ?_⟩
       obtain ⟨a2, p2, rfl⟩ := hr2.val
       refine rhl_v 17 rfl (by kernel_rfl) rfl rfl rfl hS103 (fun _ hS => ov_buildL rfl lay_194 rfl (us := [_, _, _, _, _, _, _]) rfl) ?_
       refine rhl_any1 18 (by kernel_rfl) ?_
       refine rcl_op rfl rfl (ow_box _ rfl rfl rfl rfl rfl hOb) ?_
       rintro _ w104 ⟨bs2, rfl, hO105, hs106⟩
       have hS107 : Own B w0 w104 ([some (lch b1 104 [iv mem, iv pat, .slice ma f1.length mc, .slice ga f2.length gc])]) := by exact hO105.sub (List.singleton_sublist.2 (by simp))
       refine ⟨hS107, ?_⟩
       refine rhl_v 19 rfl (by kernel_rfl) rfl rfl rfl hS107 (fun _ hS => ov_iface rfl Try.underlying192 (by intro _ h; cases h) rfl) ?_
       refine rhl_v 20 rfl (by kernel_rfl) rfl rfl rfl hS107 (fun _ hS => ov_buildNodes rfl rfl rfl rfl) ?_
       refine rhl_any1 21 (by kernel_rfl) ?_
       refine rcl_op rfl rfl (ow_v rfl rfl (ov_nil rfl rfl)) ?_
       rintro _ _ ⟨rfl, hw108⟩
       replace hw108 := hw108.symm; subst hw108
       refine ⟨hS107, ?_⟩
       refine rhl_any1 22 (by kernel_rfl) ?_
       refine rcl_op rfl rfl (ow_v rfl rfl (ov_fieldS rfl Try.underlying184 rfl (fo := 5) rfl (by kernel_rfl) rfl)) ?_
       rintro _ _ ⟨rfl, hw109⟩
       replace hw109 := hw109.symm; subst hw109
       refine ⟨hS107, ?_⟩
       refine rhl_any1 23 (by kernel_rfl) ?_
       refine rcl_last rfl rfl (ow_storeP rfl rfl (by kernel_rfl) hO105 6 rfl rfl rfl rfl rfl rfl) ?_
       rintro _ w110 ⟨rfl, hO111, hs112⟩
       refine rhl_done (by kernel_rfl) ?_
       refine run_seq <| run_region <| rl_v rfl rfl rfl (ov_move rfl rfl) <| rl_v rfl rfl rfl (ov_assign rfl rfl) <| rl_v rfl rfl rfl (ov_assign rfl rfl) <| rl_nil <| run_ret Try.func50 (res2 Try.results50 rfl rfl) ?_
       exact .inr ⟨badn, ⟨bw, bc, bs1, bs2⟩, rfl, freshWorld hr1 hr2 (((((((hO111.perm (perm_front (k := 1) rfl)).perm (perm_front (k := 4) rfl)).perm (perm_front (k := 5) rfl)).perm (perm_front (k := 3) rfl)).perm (perm_front (k := 4) rfl)).perm (perm_front (k := 5) rfl)).perm (perm_front (k := 6) rfl))⟩
      ·refine rcl_op rfl rfl (ow_call2 callable_72 rfl rfl rfl rfl rfl (cloneI_any ga f2.length gc B (gl f2) _ w0 w91 hO92 (fun B w0 w hO => h2 B w0 w (hO.sub (.cons _ (.cons _ (.cons _ (.cons _ (.cons _ (.refl _)))))))) hl2) (by intro e w' hp; obtain ⟨v2, c2, rfl, hr2, hOb⟩ := hp; exact ⟨_, rfl⟩)) ?_
       rintro _ w115 ⟨_, v113, he116, rfl, hp114⟩
       obtain ⟨v2, c2, rfl, hr2, hOb⟩ := hp114
       injection he116 with he116; subst he116
       have hS117 : Own B w0 w115 ([some (lch b1 104 [iv mem, iv pat, .slice ma f1.length mc, .slice ga f2.length gc])]) := by exact hOb.sub (List.singleton_sublist.2 (by simp))
       refine ⟨hS117, ?_⟩
       obtain ⟨a2, p2, rfl⟩ := hr2.val
       refine rhl_v 17 rfl (by kernel_rfl) rfl rfl rfl hS117 (fun _ hS => ov_buildL rfl lay_194 rfl (us := [_, _, _, _, _, _, _]) rfl) ?_
       refine rhl_any2 11 18 (by kernel_rfl) ?_ ?_
       ·refine rcl_op rfl rfl (ow_box _ rfl rfl rfl rfl rfl hOb) ?_
        rintro _ w118 ⟨bs1, rfl, hO119, hs120⟩
        have hS121 : Own B w0 w118 ([some (lch b1 104 [iv mem, iv pat, .slice ma f1.length mc, .slice ga f2.length gc])]) := by exact hO119.sub (List.singleton_sublist.2 (by simp))
        refine ⟨hS121, ?_⟩
        refine rhl_v 12 rfl (by kernel_rfl) rfl rfl rfl hS121 (fun _ hS => ov_iface rfl Try.underlying192 (by intro _ h; cases h) rfl) ?_
        refine rhl_any1 18 (by kernel_rfl) ?_
        refine rcl_op rfl rfl (ow_box _ rfl rfl rfl rfl rfl hO119) ?_
        rintro _ w122 ⟨bs2, rfl, hO123, hs124⟩
        have hS125 : Own B w0 w122 ([some (lch b1 104 [iv mem, iv pat, .slice ma f1.length mc, .slice ga f2.length gc])]) := by exact hO123.sub (List.singleton_sublist.2 (by simp))
        refine ⟨hS125, ?_⟩
        refine rhl_v 19 rfl (by kernel_rfl) rfl rfl rfl hS125 (fun _ hS => ov_iface rfl Try.underlying192 (by intro _ h; cases h) rfl) ?_
        refine rhl_v 20 rfl (by kernel_rfl) rfl rfl rfl hS125 (fun _ hS => ov_buildNodes rfl rfl rfl rfl) ?_
        refine rhl_any1 21 (by kernel_rfl) ?_
        refine rcl_op rfl rfl (ow_v rfl rfl (ov_nil rfl rfl)) ?_
        rintro _ _ ⟨rfl, hw126⟩
        replace hw126 := hw126.symm; subst hw126
        refine ⟨hS125, ?_⟩
        refine rhl_any1 22 (by kernel_rfl) ?_
        refine rcl_op rfl rfl (ow_v rfl rfl (ov_fieldS rfl Try.underlying184 rfl (fo := 5) rfl (by kernel_rfl) rfl)) ?_
        rintro _ _ ⟨rfl, hw127⟩
        replace hw127 := hw127.symm; subst hw127
        refine ⟨hS125, ?_⟩
        refine rhl_any1 23 (by kernel_rfl) ?_
        refine rcl_last rfl rfl (ow_storeP rfl rfl (by kernel_rfl) hO123 6 rfl rfl rfl rfl rfl rfl) ?_
        rintro _ w128 ⟨rfl, hO129, hs130⟩
        refine rhl_done (by kernel_rfl) ?_
        refine run_seq <| run_region <| rl_v rfl rfl rfl (ov_move rfl rfl) <| rl_v rfl rfl rfl (ov_assign rfl rfl) <| rl_v rfl rfl rfl (ov_assign rfl rfl) <| rl_nil <| run_ret Try.func50 (res2 Try.results50 rfl rfl) ?_
        exact .inr ⟨badn, ⟨bw, bc, bs1, bs2⟩, rfl, freshWorld hr1 hr2 (((((((hO129.perm (perm_front (k := 2) rfl)).perm (perm_front (k := 4) rfl)).perm (perm_front (k := 5) rfl)).perm (perm_front (k := 3) rfl)).perm (perm_front (k := 4) rfl)).perm (perm_front (k := 5) rfl)).perm (perm_front (k := 6) rfl))⟩
       ·refine rcl_op rfl rfl (ow_box _ rfl rfl rfl rfl rfl hOb) ?_
        rintro _ w131 ⟨bs2, rfl, hO132, hs133⟩
        have hS134 : Own B w0 w131 ([some (lch b1 104 [iv mem, iv pat, .slice ma f1.length mc, .slice ga f2.length gc])]) := by exact hO132.sub (List.singleton_sublist.2 (by simp))
        refine ⟨hS134, ?_⟩
        refine rhl_v 19 rfl (by kernel_rfl) rfl rfl rfl hS134 (fun _ hS => ov_iface rfl Try.underlying192 (by intro _ h; cases h) rfl) ?_
        refine rhl_any1 11 (by kernel_rfl) ?_
        refine rcl_op rfl rfl (ow_box _ rfl rfl rfl rfl rfl hO132) ?_
        rintro _ w135 ⟨bs1, rfl, hO136, hs137⟩
        have hS138 : Own B w0 w135 ([some (lch b1 104 [iv mem, iv pat, .slice ma f1.length mc, .slice ga f2.length gc])]) := by exact hO136.sub (List.singleton_sublist.2 (by simp))
        refine ⟨hS138, ?_⟩
        refine rhl_v 12 rfl (by kernel_rfl) rfl rfl rfl hS138 (fun _ hS => ov_iface rfl Try.underlying192 (by intro _ h; cases h) rfl) ?_
        refine rhl_v 20 rfl (by kernel_rfl) rfl rfl rfl hS138 (fun _ hS => ov_buildNodes rfl rfl rfl rfl) ?_
        refine rhl_any1 21 (by kernel_rfl) ?_
        refine rcl_op rfl rfl (ow_v rfl rfl (ov_nil rfl rfl)) ?_
        rintro _ _ ⟨rfl, hw139⟩
        replace hw139 := hw139.symm; subst hw139
        refine ⟨hS138, ?_⟩
        refine rhl_any1 22 (by kernel_rfl) ?_
        refine rcl_op rfl rfl (ow_v rfl rfl (ov_fieldS rfl Try.underlying184 rfl (fo := 5) rfl (by kernel_rfl) rfl)) ?_
        rintro _ _ ⟨rfl, hw140⟩
        replace hw140 := hw140.symm; subst hw140
        refine ⟨hS138, ?_⟩
        refine rhl_any1 23 (by kernel_rfl) ?_
        refine rcl_last rfl rfl (ow_storeP rfl rfl (by kernel_rfl) hO136 6 rfl rfl rfl rfl rfl rfl) ?_
        rintro _ w141 ⟨rfl, hO142, hs143⟩
        refine rhl_done (by kernel_rfl) ?_
        refine run_seq <| run_region <| rl_v rfl rfl rfl (ov_move rfl rfl) <| rl_v rfl rfl rfl (ov_assign rfl rfl) <| rl_v rfl rfl rfl (ov_assign rfl rfl) <| rl_nil <| run_ret Try.func50 (res2 Try.results50 rfl rfl) ?_
        exact .inr ⟨badn, ⟨bw, bc, bs1, bs2⟩, rfl, freshWorld hr1 hr2 (((((((hO142.perm (perm_front (k := 2) rfl)).perm (perm_front (k := 4) rfl)).perm (perm_front (k := 5) rfl)).perm (perm_front (k := 4) rfl)).perm (perm_front (k := 4) rfl)).perm (perm_front (k := 5) rfl)).perm (perm_front (k := 6) rfl))⟩
     ·refine rcl_op rfl rfl (ow_box _ rfl rfl rfl rfl rfl hOa) ?_
      rintro _ w144 ⟨bs1, rfl, hO145, hs146⟩
      have hS147 : Own B w0 w144 ([some (lch b1 104 [iv mem, iv pat, .slice ma f1.length mc, .slice ga f2.length gc])]) := by exact hO145.sub (List.singleton_sublist.2 (by simp))
      refine ⟨hS147, ?_⟩
      refine rhl_v 12 rfl (by kernel_rfl) rfl rfl rfl hS147 (fun _ hS => ov_iface rfl Try.underlying192 (by intro _ h; cases h) rfl) ?_
      refine rhl_any2 4 16 (by kernel_rfl) ?_ ?_
      ·refine rcl_op rfl rfl (ow_box _ rfl rfl rfl rfl rfl hO145) ?_
       rintro _ w148 ⟨bc, rfl, hO149, hs150⟩
       have hS151 : Own B w0 w148 ([some (lch b1 104 [iv mem, iv pat, .slice ma f1.length mc, .slice ga f2.length gc])]) := by exact hO149.sub (List.singleton_sublist.2 (by simp))
       refine ⟨hS151, ?_⟩
       refine rhl_v 5 rfl (by kernel_rfl) rfl rfl rfl hS151 (fun _ hS => ov_iface rfl Try.underlying185 (by intro _ h; cases h) rfl) ?_
       refine rhl_any1 16 (by kernel_rfl) ?_
       refine rcl_op rfl rfl (ow_call2 callable_72 rfl rfl rfl rfl rfl (cloneI_any ga f2.length gc B (gl f2) _ w0 w148 hO149 (fun B w0 w hO => h2 B w0 w (hO.sub (.cons _ (.cons _ (.cons _ (.cons _ (.cons _ (.cons _ (.refl _))))))))) hl2) (by intro e w' hp; obtain ⟨v2, c2, rfl, hr2, hOb⟩ := hp; exact ⟨_, rfl⟩)) ?_
       rintro _ w154 ⟨_, v152, he155, rfl, hp153⟩
       obtain ⟨v2, c2, rfl, hr2, hOb⟩ := hp153
       injection he155 with he155; subst he155
       have hS156 : Own B w0 w154 ([some (lch b1 104 [iv mem, iv pat, .slice ma f1.length mc, .slice ga f2.length gc])]) := by exact hOb.sub (List.singleton_sublist.2 (by simp))
       refine ⟨hS156, ?_⟩
       obtain ⟨a2, p2, rfl⟩ := hr2.val
       refine rhl_v 17 rfl (by kernel_rfl) rfl rfl rfl hS156 (fun _ hS => ov_buildL rfl lay_194 rfl (us := [_, _, _, _, _, _, _]) rfl) ?_
       refine rhl_any1 18 (by kernel_rfl) ?_
       refine rcl_op rfl rfl (ow_box _ rfl rfl rfl rfl rfl hOb) ?_
       rintro _ w157 ⟨bs2, rfl, hO158, hs159⟩
       have hS160 : Own B w0 w157 ([some (lch b1 104 [iv mem, iv pat, .slice ma f1.length mc, .slice ga f2.length gc])]) := by exact hO158.sub (List.singleton_sublist.2 (by simp))
       refine ⟨hS160, ?_⟩
       refine rhl_v 19 rfl (by kernel_rfl) rfl rfl rfl hS160 (fun _ hS => ov_iface rfl Try.underlying192 (by intro _ h; cases h) rfl) ?_
       refine rhl_v 20 rfl (by kernel_rfl) rfl rfl rfl hS160 (fun _ hS => ov_buildNodes rfl rfl rfl rfl) ?_
       refine rhl_any1 21 (by kernel_rfl) ?_
       refine rcl_op rfl rfl (ow_v rfl rfl (ov_nil rfl rfl)) ?_
       rintro _ _ ⟨rfl, hw161⟩
       replace hw161 := hw161.symm; subst hw161
       refine ⟨hS160, ?_⟩
       refine rhl_any1 22 (by kernel_rfl) ?_
       refine rcl_op rfl rfl (ow_v rfl rfl (ov_fieldS rfl Try.underlying184 rfl (fo := 5) rfl (by kernel_rfl) rfl)) ?_
       rintro _ _ ⟨rfl, hw162⟩
       replace hw162 := hw162.symm; subst hw162
       refine ⟨hS160, ?_⟩
       refine rhl_any1 23 (by kernel_rfl) ?_
       refine rcl_last rfl rfl (ow_storeP rfl rfl (by kernel_rfl) hO158 6 rfl rfl rfl rfl rfl rfl) ?_
       rintro _ w163 ⟨rfl, hO164, hs165⟩
       refine rhl_done (by kernel_rfl) ?_
       refine run_seq <| run_region <| rl_v rfl rfl rfl (ov_move rfl rfl) <| rl_v rfl rfl rfl (ov_assign rfl rfl) <| rl_v rfl rfl rfl (ov_assign rfl rfl) <| rl_nil <| run_ret Try.func50 (res2 Try.results50 rfl rfl) ?_
       exact .inr ⟨badn, ⟨bw, bc, bs1, bs2⟩, rfl, freshWorld hr1 hr2 (((((((hO164.perm (perm_front (k := 1) rfl)).perm (perm_front (k := 4) rfl)).perm (perm_front (k := 5) rfl)).perm (perm_front (k := 3) rfl)).perm (perm_front (k := 5) rfl)).perm (perm_front (k := 5) rfl)).perm (perm_front (k := 6) rfl))⟩
      ·refine rcl_op rfl rfl (ow_call2 callable_72 rfl rfl rfl rfl rfl (cloneI_any ga f2.length gc B (gl f2) _ w0 w144 hO145 (fun B w0 w hO => h2 B w0 w (hO.sub (.cons _ (.cons _ (.cons _ (.cons _ (.cons _ (.refl _)))))))) hl2) (by intro e w' hp; obtain ⟨v2, c2, rfl, hr2, hOb⟩ := hp; exact ⟨_, rfl⟩)) ?_
       rintro _ w168 ⟨_, v166, he169, rfl, hp167⟩
       obtain ⟨v2, c2, rfl, hr2, hOb⟩ := hp167
       injection he169 with he169; subst he169
       have hS170 : Own B w0 w168 ([some (lch b1 104 [iv mem, iv pat, .slice ma f1.length mc, .slice ga f2.length gc])]) := by exact hOb.sub (List.singleton_sublist.2 (by simp))
       refine ⟨hS170, ?_⟩
       obtain ⟨a2, p2, rfl⟩ := hr2.val
       refine rhl_v 17 rfl (by kernel_rfl) rfl rfl rfl hS170 (fun _ hS => ov_buildL rfl lay_194 rfl (us := [_, _, _, _, _, _, _]) rfl) ?_
       refine rhl_any2 4 18 (by kernel_rfl) ?_ ?_
       ·refine rcl_op rfl rfl (ow_box _ rfl rfl rfl rfl rfl hOb) ?_
        rintro _ w171 ⟨bc, rfl, hO172, hs173⟩
        have hS174 : Own B w0 w171 ([some (lch b1 104 [iv mem, iv pat, .slice ma f1.length mc, .slice ga f2.length gc])]) := by exact hO172.sub (List.singleton_sublist.2 (by simp))
        refine ⟨hS174, ?_⟩
        refine rhl_v 5 rfl (by kernel_rfl) rfl rfl rfl hS174 (fun _ hS => ov_iface rfl Try.underlying185 (by intro _ h; cases h) rfl) ?_
        refine rhl_any1 18 (by kernel_rfl) ?_
        refine rcl_op rfl rfl (ow_box _ rfl rfl rfl rfl rfl hO172) ?_
        rintro _ w175 ⟨bs2, rfl, hO176, hs177⟩
        have hS178 : Own B w0 w175 ([some (lch b1 104 [iv mem, iv pat, .slice ma f1.length mc, .slice ga f2.length gc])]) := by exact hO176.sub (List.singleton_sublist.2 (by simp))
        refine ⟨hS178, ?_⟩
        refine rhl_v 19 rfl (by kernel_rfl) rfl rfl rfl hS178 (fun _ hS => ov_iface rfl Try.underlying192 (by intro _ h; cases h) rfl) ?_
        refine rhl_v 20 rfl (by kernel_rfl) rfl rfl rfl hS178 (fun _ hS => ov_buildNodes rfl rfl rfl rfl) ?_
        refine rhl_any1 21 (by kernel_rfl) ?_
        refine rcl_op rfl rfl (ow_v rfl rfl (ov_nil rfl rfl)) ?_
        rintro _ _ ⟨rfl, hw179⟩
        replace hw179 := hw179.symm; subst hw179
        refine ⟨hS178, ?_⟩
        refine rhl_any1 22 (by kernel_rfl) ?_
        refine rcl_op rfl rfl (ow_v rfl rfl (ov_fieldS rfl Try.underlying184 rfl (fo := 5) rfl (by kernel_rfl) rfl)) ?_
        rintro _ _ ⟨rfl, hw180⟩
        replace hw180 := hw180.symm; subst hw180
        refine ⟨hS178, ?_⟩
        refine rhl_any1 23 (by kernel_rfl) ?_
        refine rcl_last rfl rfl (ow_storeP rfl rfl (by kernel_rfl) hO176 6 rfl rfl rfl rfl rfl rfl) ?_
        rintro _ w181 ⟨rfl, hO182, hs183⟩
        refine rhl_done (by kernel_rfl) ?_
        refine run_seq <| run_region <| rl_v rfl rfl rfl (ov_move rfl rfl) <| rl_v rfl rfl rfl (ov_assign rfl rfl) <| rl_v rfl rfl rfl (ov_assign rfl rfl) <| rl_nil <| run_ret Try.func50 (res2 Try.results50 rfl rfl) ?_
        exact .inr ⟨badn, ⟨bw, bc, bs1, bs2⟩, rfl, freshWorld hr1 hr2 (((((((hO182.perm (perm_front (k := 2) rfl)).perm (perm_front (k := 4) rfl)).perm (perm_front (k := 5) rfl)).perm (perm_front (k := 3) rfl)).perm (perm_front (k := 5) rfl)).perm (perm_front (k := 5) rfl)).perm (perm_front (k := 6) rfl))⟩
       ·refine rcl_op rfl rfl (ow_box _ rfl rfl rfl rfl rfl hOb) ?_
        rintro _ w184 ⟨bs2, rfl, hO185, hs186⟩
        have hS187 : Own B w0 w184 ([some (lch b1 104 [iv mem, iv pat, .slice ma f1.length mc, .slice ga f2.length gc])]) := by exact hO185.sub (List.singleton_sublist.2 (by simp))
        refine ⟨hS187, ?_⟩
        refine rhl_v 19 rfl (by kernel_rfl) rfl rfl rfl hS187 (fun _ hS => ov_iface rfl Try.underlying192 (by intro _ h; cases h) rfl) ?_
        refine rhl_any1 4 (by kernel_rfl) ?_
        refine rcl_op rfl rfl (ow_box _ rfl rfl rfl rfl rfl hO185) ?_
        rintro _ w188 ⟨bc, rfl, hO189, hs190⟩
        have hS191 : Own B w0 w188 ([some (lch b1 104 [iv mem, iv pat, .slice ma f1.length mc, .slice ga f2.length gc])]) := by exact hO189.sub (List.singleton_sublist.2 (by simp))
        refine ⟨hS191, ?_⟩
        refine rhl_v 5 rfl (by kernel_rfl) rfl rfl rfl hS191 (fun _ hS => ov_iface rfl Try.underlying185 (by intro _ h; cases h) rfl) ?_
        refine rhl_v 20 rfl (by kernel_rfl) rfl rfl rfl hS191 (fun _ hS => ov_buildNodes rfl rfl rfl rfl) ?_
        refine rhl_any1 21 (by kernel_rfl) ?_
        refine rcl_op rfl rfl (ow_v rfl rfl (ov_nil rfl rfl)) ?_
        rintro _ _ ⟨rfl, hw192⟩
        replace hw192 := hw192.symm; subst hw192
        refine ⟨hS191, ?_⟩
        refine rhl_any1 22 (by kernel_rfl) ?_
        refine rcl_op rfl rfl (ow_v rfl rfl (ov_fieldS rfl Try.underlying184 rfl (fo := 5) rfl (by kernel_rfl) rfl)) ?_
        rintro _ _ ⟨rfl, hw193⟩
        replace hw193 := hw193.symm; subst hw193
        refine ⟨hS191, ?_⟩
        refine rhl_any1 23 (by kernel_rfl) ?_
        refine rcl_last rfl rfl (ow_storeP rfl rfl (by kernel_rfl) hO189 6 rfl rfl rfl rfl rfl rfl) ?_
        rintro _ w194 ⟨rfl, hO195, hs196⟩
        refine rhl_done (by kernel_rfl) ?_
        refine run_seq <| run_region <| rl_v rfl rfl rfl (ov_move rfl rfl) <| rl_v rfl rfl rfl (ov_assign rfl rfl) <| rl_v rfl rfl rfl (ov_assign rfl rfl) <| rl_nil <| run_ret Try.func50 (res2 Try.results50 rfl rfl) ?_
        exact .inr ⟨badn, ⟨bw, bc, bs1, bs2⟩, rfl, freshWorld hr1 hr2 (((((((hO195.perm (perm_front (k := 2) rfl)).perm (perm_front (k := 4) rfl)).perm (perm_front (k := 5) rfl)).perm (perm_front (k := 4) rfl)).perm (perm_front (k := 5) rfl)).perm (perm_front (k := 5) rfl)).perm (perm_front (k := 6) rfl))⟩
     ·refine rcl_op rfl rfl (ow_call2 callable_72 rfl rfl rfl rfl rfl (cloneI_any ga f2.length gc B (gl f2) _ w0 w88 hOa (fun B w0 w hO => h2 B w0 w (hO.sub (.cons _ (.cons _ (.cons _ (.cons _ (.refl _))))))) hl2) (by intro e w' hp; obtain ⟨v2, c2, rfl, hr2, hOb⟩ := hp; exact ⟨_, rfl⟩)) ?_
      rintro _ w199 ⟨_, v197, he200, rfl, hp198⟩
      obtain ⟨v2, c2, rfl, hr2, hOb⟩ := hp198
      injection he200 with he200; subst he200
      have hS201 : Own B w0 w199 ([some (lch b1 104 [iv mem, iv pat, .slice ma f1.length mc, .slice ga f2.length gc])]) := by exact hOb.sub (List.singleton_sublist.2 (by simp))
      refine ⟨hS201, ?_⟩
      obtain ⟨a2, p2, rfl⟩ := hr2.val
      refine rhl_v 17 rfl (by kernel_rfl) rfl rfl rfl hS201 (fun _ hS => ov_buildL rfl lay_194 rfl (us := [_, _, _, _, _, _, _]) rfl) ?_
      refine rhl_any3 4 11 18 (by kernel_rfl) ?_ ?_ ?_
      ·refine rcl_op rfl rfl (ow_box _ rfl rfl rfl rfl rfl hOb) ?_
       rintro _ w202 ⟨bc, rfl, hO203, hs204⟩
       have hS205 : Own B w0 w202 ([some (lch b1 104 [iv mem, iv pat, .slice ma f1.length mc, .slice ga f2.length gc])]) := by exact hO203.sub (List.singleton_sublist.2 (by simp))
       refine ⟨hS205, ?_⟩
       refine rhl_v 5 rfl (by kernel_rfl) rfl rfl rfl hS205 (fun _ hS => ov_iface rfl Try.underlying185 (by intro _ h; cases h) rfl) ?_
       refine rhl_any2 11 18 (by kernel_rfl) ?_ ?_
       ·refine rcl_op rfl rfl (ow_box _ rfl rfl rfl rfl rfl hO203) ?_
        rintro _ w206 ⟨bs1, rfl, hO207, hs208⟩
        have hS209 : Own B w0 w206 ([some (lch b1 104 [iv mem, iv pat, .slice ma f1.length mc, .slice ga f2.length gc])]) := by exact hO207.sub (List.singleton_sublist.2 (by simp))
        refine ⟨hS209, ?_⟩
        refine rhl_v 12 rfl (by kernel_rfl) rfl rfl rfl hS209 (fun _ hS => ov_iface rfl Try.underlying192 (by intro _ h; cases h) rfl) ?_
        refine rhl_any1 18 (by kernel_rfl) ?_
        refine rcl_op rfl rfl (ow_box _ rfl rfl rfl rfl rfl hO207) ?_
        rintro _ w210 ⟨bs2, rfl, hO211, hs212⟩
        have hS213 : Own B w0 w210 ([some (lch b1 104 [iv mem, iv pat, .slice ma f1.length mc, .slice ga f2.length gc])]) := by exact hO211.sub (List.singleton_sublist.2 (by simp))
        refine ⟨hS213, ?_⟩
        refine rhl_v 19 rfl (by kernel_rfl) rfl rfl rfl hS213 (fun _ hS => ov_iface rfl Try.underlying192 (by intro _ h; cases h) rfl) ?_
        refine rhl_v 20 rfl (by kernel_rfl) rfl rfl rfl hS213 (fun _ hS => ov_buildNodes rfl rfl rfl rfl) ?_
        refine rhl_any1 21 (by kernel_rfl) ?_
        refine rcl_op rfl rfl (ow_v rfl rfl (ov_nil rfl rfl)) ?_
        rintro _ _ ⟨rfl, hw214⟩
        replace hw214 := hw214.symm; subst hw214
        refine ⟨hS213, ?_⟩
        refine rhl_any1 22 (by kernel_rfl) ?_
        refine rcl_op rfl rfl (ow_v rfl rfl (ov_fieldS rfl Try.underlying184 rfl (fo := 5) rfl (by kernel_rfl) rfl)) ?_
        rintro _ _ ⟨rfl, hw215⟩
        replace hw215 := hw215.symm; subst hw215
        refine ⟨hS213, ?_⟩
        refine rhl_any1 23 (by kernel_rfl) ?_
        refine rcl_last rfl rfl (ow_storeP rfl rfl (by kernel_rfl) hO211 6 rfl rfl rfl rfl rfl rfl) ?_
        rintro _ w216 ⟨rfl, hO217, hs218⟩
        refine rhl_done (by kernel_rfl) ?_
        refine run_seq <| run_region <| rl_v rfl rfl rfl (ov_move rfl rfl) <| rl_v rfl rfl rfl (ov_assign rfl rfl) <| rl_v rfl rfl rfl (ov_assign rfl rfl) <| rl_nil <| run_ret Try.func50 (res2 Try.results50 rfl rfl) ?_
        exact .inr ⟨badn, ⟨bw, bc, bs1, bs2⟩, rfl, freshWorld hr1 hr2 (((((((hO217.perm (perm_front (k := 3) rfl)).perm (perm_front (k := 4) rfl)).perm (perm_front (k := 5) rfl)).perm (perm_front (k := 3) rfl)).perm (perm_front (k := 4) rfl)).perm (perm_front (k := 5) rfl)).perm (perm_front (k := 6) rfl))⟩
       ·refine rcl_op rfl rfl (ow_box _ rfl rfl rfl rfl rfl hO203) ?_
        rintro _ w219 ⟨bs2, rfl, hO220, hs221⟩
        have hS222 : Own B w0 w219 ([some (lch b1 104 [iv mem, iv pat, .slice ma f1.length mc, .slice ga f2.length gc])]) := by exact hO220.sub (List.singleton_sublist.2 (by simp))
        refine ⟨hS222, ?_⟩
        refine rhl_v 19 rfl (by kernel_rfl) rfl rfl rfl hS222 (fun _ hS => ov_iface rfl Try.underlying192 (by intro _ h; cases h) rfl) ?_
        refine rhl_any1 11 (by kernel_rfl) ?_
        refine rcl_op rfl rfl (ow_box _ rfl rfl rfl rfl rfl hO220) ?_
        rintro _ w223 ⟨bs1, rfl, hO224, hs225⟩
        have hS226 : Own B w0 w223 ([some (lch b1 104 [iv mem, iv pat, .slice ma f1.length mc, .slice ga f2.length gc])]) := by exact hO224.sub (List.singleton_sublist.2 (by simp))
        refine ⟨hS226, ?_⟩
        refine rhl_v 12 rfl (by kernel_rfl) rfl rfl rfl hS226 (fun _ hS => ov_iface rfl Try.underlying192 (by intro _ h; cases h) rfl) ?_
        refine rhl_v 20 rfl (by kernel_rfl) rfl rfl rfl hS226 (fun _ hS => ov_buildNodes rfl rfl rfl rfl) ?_
        refine rhl_any1 21 (by kernel_rfl) ?_
        refine rcl_op rfl rfl (ow_v rfl rfl (ov_nil rfl rfl)) ?_
        rintro _ _ ⟨rfl, hw227⟩
        replace hw227 := hw227.symm; subst hw227
        refine ⟨hS226, ?_⟩
        refine rhl_any1 22 (by kernel_rfl) ?_
        refine rcl_op rfl rfl (ow_v rfl rfl (ov_fieldS rfl Try.underlying184 rfl (fo := 5) rfl (by kernel_rfl) rfl)) ?_
        rintro _ _ ⟨rfl, hw228⟩
        replace hw228 := hw228.symm; subst hw228
        refine ⟨hS226, ?_⟩
        refine rhl_any1 23 (by kernel_rfl) ?_
        refine rcl_last rfl rfl (ow_storeP rfl rfl (by kernel_rfl) hO224 6 rfl rfl rfl rfl rfl rfl) ?_
        rintro _ w229 ⟨rfl, hO230, hs231⟩
        refine rhl_done (by kernel_rfl) ?_
        refine run_seq <| run_region <| rl_v rfl rfl rfl (ov_move rfl rfl) <| rl_v rfl rfl rfl (ov_assign rfl rfl) <| rl_v rfl rfl rfl (ov_assign rfl rfl) <| rl_nil <| run_ret Try.func50 (res2 Try.results50 rfl rfl) ?_
        exact .inr ⟨badn, ⟨bw, bc, bs1, bs2⟩, rfl, freshWorld hr1 hr2 (((((((hO230.perm (perm_front (k := 3) rfl)).perm (perm_front (k := 4) rfl)).perm (perm_front (k := 5) rfl)).perm (perm_front (k := 4) rfl)).perm (perm_front (k := 4) rfl)).perm (perm_front (k := 5) rfl)).perm (perm_front (k := 6) rfl))⟩
      ·refine rcl_op rfl rfl (ow_box _ rfl rfl rfl rfl rfl hOb) ?_
       rintro _ w232 ⟨bs1, rfl, hO233, hs234⟩
       have hS235 : Own B w0 w232 ([some (lch b1 104 [iv mem, iv pat, .slice ma f1.length mc, .slice ga f2.length gc])]) := by exact hO233.sub (List.singleton_sublist.2 (by simp))
       refine ⟨hS235, ?_⟩
       refine rhl_v 12 rfl (by kernel_rfl) rfl rfl rfl hS235 (fun _ hS => ov_iface rfl Try.underlying192 (by intro _ h; cases h) rfl) ?_
       refine rhl_any2 4 18 (by kernel_rfl) ?_ ?_
       ·refine rcl_op rfl rfl (ow_box _ rfl rfl rfl rfl rfl hO233) ?_
        rintro _ w236 ⟨bc, rfl, hO237, hs238⟩
        have hS239 : Own B w0 w236 ([some (lch b1 104 [iv mem, iv pat, .slice ma f1.length mc, .slice ga f2.length gc])]) := by exact hO237.sub (List.singleton_sublist.2 (by simp))
        refine ⟨hS239, ?_⟩
        refine rhl_v 5 rfl (by kernel_rfl) rfl rfl rfl hS239 (fun _ hS => ov_iface rfl Try.underlying185 (by intro _ h; cases h) rfl) ?_
        refine rhl_any1 18 (by kernel_rfl) ?_
        refine rcl_op rfl rfl (ow_box _ rfl rfl rfl rfl rfl hO237) ?_
        rintro _ w240 ⟨bs2, rfl, hO241, hs242⟩
        have hS243 : Own B w0 w240 ([some (lch b1 104 [iv mem, iv pat, .slice ma f1.length mc, .slice ga f2.length gc])]) := by exact hO241.sub (List.singleton_sublist.2 (by simp))
        refine ⟨hS243, ?_⟩
        refine rhl_v 19 rfl (by kernel_rfl) rfl rfl rfl hS243 (fun _ hS => ov_iface rfl Try.underlying192 (by intro _ h; cases h) rfl) ?_
        refine rhl_v 20 rfl (by kernel_rfl) rfl rfl rfl hS243 (fun _ hS => ov_buildNodes rfl rfl rfl rfl) ?_
        refine rhl_any1 21 (by kernel_rfl) ?_
        refine rcl_op rfl rfl (ow_v rfl rfl (ov_nil rfl rfl)) ?_
        rintro _ _ ⟨rfl, hw244⟩
        replace hw244 := hw244.symm; subst hw244
        refine ⟨hS243, ?_⟩
        refine rhl_any1 22 (by kernel_rfl) ?_
        refine rcl_op rfl rfl (ow_v rfl rfl (ov_fieldS rfl Try.underlying184 rfl (fo := 5) rfl (by kernel_rfl) rfl)) ?_
        rintro _ _ ⟨rfl, hw245⟩
        replace hw245 := hw245.symm; subst hw245
        refine ⟨hS243, ?_⟩
        refine rhl_any1 23 (by kernel_rfl) ?_
        refine rcl_last rfl rfl (ow_storeP rfl rfl (by kernel_rfl) hO241 6 rfl rfl rfl rfl rfl rfl) ?_
        rintro _ w246 ⟨rfl, hO247, hs248⟩
        refine rhl_done (by kernel_rfl) ?_
        refine run_seq <| run_region <| rl_v rfl rfl rfl (ov_move rfl rfl) <| rl_v rfl rfl rfl (ov_assign rfl rfl) <| rl_v rfl rfl rfl (ov_assign rfl rfl) <| rl_nil <| run_ret Try.func50 (res2 Try.results50 rfl rfl) ?_
        exact .inr ⟨badn, ⟨bw, bc, bs1, bs2⟩, rfl, freshWorld hr1 hr2 (((((((hO247.perm (perm_front (k := 3) rfl)).perm (perm_front (k := 4) rfl)).perm (perm_front (k := 5) rfl)).perm (perm_front (k := 3) rfl)).perm (perm_front (k := 5) rfl)).perm (perm_front (k := 5) rfl)).perm (perm_front (k := 6) rfl))⟩
       ·refine rcl_op rfl rfl (ow_box _ rfl rfl rfl rfl rfl hO233) ?_
        rintro _ w249 ⟨bs2, rfl, hO250, hs251⟩
        have hS252 : Own B w0 w249 ([some (lch b1 104 [iv mem, iv pat, .slice ma f1.length mc, .slice ga f2.length gc])]) := by exact hO250.sub (List.singleton_sublist.2 (by simp))
        refine ⟨hS252, ?_⟩
        refine rhl_v 19 rfl (by kernel_rfl) rfl rfl rfl hS252 (fun _ hS => ov_iface rfl Try.underlying192 (by intro _ h; cases h) rfl) ?_
        refine rhl_any1 4 (by kernel_rfl) ?_
        refine rcl_op rfl rfl (ow_box _ rfl rfl rfl rfl rfl hO250) ?_
        rintro _ w253 ⟨bc, rfl, hO254, hs255⟩
        have hS256 : Own B w0 w253 ([some (lch b1 104 [iv mem, iv pat, .slice ma f1.length mc, .slice ga f2.length gc])]) := by exact hO254.sub (List.singleton_sublist.2 (by simp))
        refine ⟨hS256, ?_⟩
        refine rhl_v 5 rfl (by kernel_rfl) rfl rfl rfl hS256 (fun _ hS => ov_iface rfl Try.underlying185 (by intro _ h; cases h) rfl) ?_
        refine rhl_v 20 rfl (by kernel_rfl) rfl rfl rfl hS256 (fun _ hS => ov_buildNodes rfl rfl rfl rfl) ?_
        refine rhl_any1 21 (by kernel_rfl) ?_
        refine rcl_op rfl rfl (ow_v rfl rfl (ov_nil rfl rfl)) ?_
        rintro _ _ ⟨rfl, hw257⟩
        replace hw257 := hw257.symm; subst hw257
        refine ⟨hS256, ?_⟩
        refine rhl_any1 22 (by kernel_rfl) ?_
        refine rcl_op rfl rfl (ow_v rfl rfl (ov_fieldS rfl Try.underlying184 rfl (fo := 5) rfl (by kernel_rfl) rfl)) ?_
        rintro _ _ ⟨rfl, hw258⟩
        replace hw258 := hw258.symm; subst hw258
        refine ⟨hS256, ?_⟩
        refine rhl_any1 23 (by kernel_rfl) ?_
        refine rcl_last rfl rfl (ow_storeP rfl rfl (by kernel_rfl) hO254 6 rfl rfl rfl rfl rfl rfl) ?_
        rintro _ w259 ⟨rfl, hO260, hs261⟩
        refine rhl_done (by kernel_rfl) ?_
        refine run_seq <| run_region <| rl_v rfl rfl rfl (ov_move rfl rfl) <| rl_v rfl rfl rfl (ov_assign rfl rfl) <| rl_v rfl rfl rfl (ov_assign rfl rfl) <| rl_nil <| run_ret Try.func50 (res2 Try.results50 rfl rfl) ?_
        exact .inr ⟨badn, ⟨bw, bc, bs1, bs2⟩, rfl, freshWorld hr1 hr2 (((((((hO260.perm (perm_front (k := 3) rfl)).perm (perm_front (k := 4) rfl)).perm (perm_front (k := 5) rfl)).perm (perm_front (k := 4) rfl)).perm (perm_front (k := 5) rfl)).perm (perm_front (k := 5) rfl)).perm (perm_front (k := 6) rfl))⟩
      ·refine rcl_op rfl rfl (ow_box _ rfl rfl rfl rfl rfl hOb) ?_
       rintro _ w262 ⟨bs2, rfl, hO263, hs264⟩
       have hS265 : Own B w0 w262 ([some (lch b1 104 [iv mem, iv pat, .slice ma f1.length mc, .slice ga f2.length gc])]) := by exact hO263.sub (List.singleton_sublist.2 (by simp))
       refine ⟨hS265, ?_⟩
       refine rhl_v 19 rfl (by kernel_rfl) rfl rfl rfl hS265 (fun _ hS => ov_iface rfl Try.underlying192 (by intro _ h; cases h) rfl) ?_
       refine rhl_any2 4 11 (by kernel_rfl) ?_ ?_
       ·refine rcl_op rfl rfl (ow_box _ rfl rfl rfl rfl rfl hO263) ?_
        rintro _ w266 ⟨bc, rfl, hO267, hs268⟩
        have hS269 : Own B w0 w266 ([some (lch b1 104 [iv mem, iv pat, .slice ma f1.length mc, .slice ga f2.length gc])]) := by exact hO267.sub (List.singleton_sublist.2 (by simp))
        refine ⟨hS269, ?_⟩
        refine rhl_v 5 rfl (by kernel_rfl) rfl rfl rfl hS269 (fun _ hS => ov_iface rfl Try.underlying185 (by intro _ h; cases h) rfl) ?_
        refine rhl_any1 11 (by kernel_rfl) ?_
        refine rcl_op rfl rfl (ow_box _ rfl rfl rfl rfl rfl hO267) ?_
        rintro _ w270 ⟨bs1, rfl, hO271, hs272⟩
        have hS273 : Own B w0 w270 ([some (lch b1 104 [iv mem, iv pat, .slice ma f1.length mc, .slice ga f2.length gc])]) := by exact hO271.sub (List.singleton_sublist.2 (by simp))
        refine ⟨hS273, ?_⟩
        refine rhl_v 12 rfl (by kernel_rfl) rfl rfl rfl hS273 (fun _ hS => ov_iface rfl Try.underlying192 (by intro _ h; cases h) rfl) ?_
        refine rhl_v 20 rfl (by kernel_rfl) rfl rfl rfl hS273 (fun _ hS => ov_buildNodes rfl rfl rfl rfl) ?_
        refine rhl_any1 21 (by kernel_rfl) ?_
        refine rcl_op rfl rfl (ow_v rfl rfl (ov_nil rfl rfl)) ?_
        rintro _ _ ⟨rfl, hw274⟩
        replace hw274 := hw274.symm; subst hw274
        refine ⟨hS273, ?_⟩
        refine rhl_any1 22 (by kernel_rfl) ?_
        refine rcl_op rfl rfl (ow_v rfl rfl (ov_fieldS rfl Try.underlying184 rfl (fo := 5) rfl (by kernel_rfl) rfl)) ?_
        rintro _ _ ⟨rfl, hw275⟩
        replace hw275 := hw275.symm; subst hw275
        refine ⟨hS273, ?_⟩
        refine rhl_any1 23 (by kernel_rfl) ?_
        refine rcl_last rfl rfl (ow_storeP rfl rfl (by kernel_rfl) hO271 6 rfl rfl rfl rfl rfl rfl) ?_
        rintro _ w276 ⟨rfl, hO277, hs278⟩
        refine rhl_done (by kernel_rfl) ?_
        refine run_seq <| run_region <| rl_v rfl rfl rfl (ov_move rfl rfl) <| rl_v rfl rfl rfl (ov_assign rfl rfl) <| rl_v rfl rfl rfl (ov_assign rfl rfl) <| rl_nil <| run_ret Try.func50 (res2 Try.results50 rfl rfl) ?_
        exact .inr ⟨badn, ⟨bw, bc, bs1, bs2⟩, rfl, freshWorld hr1 hr2 (((((((hO277.perm (perm_front (k := 3) rfl)).perm (perm_front (k := 4) rfl)).perm (perm_front (k := 5) rfl)).perm (perm_front (k := 5) rfl)).perm (perm_front (k := 4) rfl)).perm (perm_front (k := 5) rfl)).perm (perm_front (k := 6) rfl))⟩
       ·refine rcl_op rfl rfl (ow_box _ rfl rfl rfl rfl rfl hO263) ?_
        rintro _ w279 ⟨bs1, rfl, hO280, hs281⟩
        have hS282 : Own B w0 w279 ([some (lch b1 104 [iv mem, iv pat, .slice ma f1.length mc, .slice ga f2.length gc])]) := by exact hO280.sub (List.singleton_sublist.2 (by simp))
        refine ⟨hS282, ?_⟩
        refine rhl_v 12 rfl (by kernel_rfl) rfl rfl rfl hS282 (fun _ hS => ov_iface rfl Try.underlying192 (by intro _ h; cases h) rfl) ?_
        refine rhl_any1 4 (by kernel_rfl) ?_
        refine rcl_op rfl rfl (ow_box _ rfl rfl rfl rfl rfl hO280) ?_
        rintro _ w283 ⟨bc, rfl, hO284, hs285⟩
        have hS286 : Own B w0 w283 ([some (lch b1 104 [iv mem, iv pat, .slice ma f1.length mc, .slice ga f2.length gc])]) := by exact hO284.sub (List.singleton_sublist.2 (by simp))
        refine ⟨hS286, ?_⟩
        refine rhl_v 5 rfl (by kernel_rfl) rfl rfl rfl hS286 (fun _ hS => ov_iface rfl Try.underlying185 (by intro _ h; cases h) rfl) ?_
        refine rhl_v 20 rfl (by kernel_rfl) rfl rfl rfl hS286 (fun _ hS => ov_buildNodes rfl rfl rfl rfl) ?_
        refine rhl_any1 21 (by kernel_rfl) ?_
        refine rcl_op rfl rfl (ow_v rfl rfl (ov_nil rfl rfl)) ?_
        rintro _ _ ⟨rfl, hw287⟩
        replace hw287 := hw287.symm; subst hw287
        refine ⟨hS286, ?_⟩
        refine rhl_any1 22 (by kernel_rfl) ?_
        refine rcl_op rfl rfl (ow_v rfl rfl (ov_fieldS rfl Try.underlying184 rfl (fo := 5) rfl (by kernel_rfl) rfl)) ?_
        rintro _ _ ⟨rfl, hw288⟩
        replace hw288 := hw288.symm; subst hw288
        refine ⟨hS286, ?_⟩
        refine rhl_any1 23 (by kernel_rfl) ?_
        refine rcl_last rfl rfl (ow_storeP rfl rfl (by kernel_rfl) hO284 6 rfl rfl rfl rfl rfl rfl) ?_
        rintro _ w289 ⟨rfl, hO290, hs291⟩
        refine rhl_done (by kernel_rfl) ?_
        refine run_seq <| run_region <| rl_v rfl rfl rfl (ov_move rfl rfl) <| rl_v rfl rfl rfl (ov_assign rfl rfl) <| rl_v rfl rfl rfl (ov_assign rfl rfl) <| rl_nil <| run_ret Try.func50 (res2 Try.results50 rfl rfl) ?_
        exact .inr ⟨badn, ⟨bw, bc, bs1, bs2⟩, rfl, freshWorld hr1 hr2 (((((((hO290.perm (perm_front (k := 3) rfl)).perm (perm_front (k := 4) rfl)).perm (perm_front (k := 5) rfl)).perm (perm_front (k := 5) rfl)).perm (perm_front (k := 5) rfl)).perm (perm_front (k := 5) rfl)).perm (perm_front (k := 6) rfl))⟩
   ·refine rcl_op rfl rfl (ow_call2 callable_72 rfl rfl rfl rfl rfl (cloneI_any ma f1.length mc B (gl f1) _ w0 w21 hO22 (fun B w0 w hO => h1 B w0 w (hO.sub (.cons _ (.cons _ (.refl _))))) hl1) (by intro e w' hp; obtain ⟨v1, c1, rfl, hr1, hOa⟩ := hp; exact ⟨_, rfl⟩)) ?_
    rintro _ w294 ⟨_, v292, he295, rfl, hp293⟩
    obtain ⟨v1, c1, rfl, hr1, hOa⟩ := hp293
    injection he295 with he295; subst he295
    have hS296 : Own B w0 w294 ([some (lch b1 104 [iv mem, iv pat, .slice ma f1.length mc, .slice ga f2.length gc])]) := by exact hOa.sub (List.singleton_sublist.2 (by simp))
    refine ⟨hS296, ?_⟩
    obtain ⟨a1, p1, rfl⟩ := hr1.val
    refine rhl_v 10 rfl (by kernel_rfl) rfl rfl rfl hS296 (fun _ hS => ov_buildL rfl lay_194 rfl (us := [_, _, _, _, _, _, _]) rfl) ?_
    refine rhl_any3 2 11 16 (by kernel_rfl) ?_ ?_ ?_
    ·refine rcl_op rfl rfl (ow_makemap rfl rfl rfl hOa) ?_
     rintro _ w297 ⟨bm, rfl, hO298, hs299⟩
     have hS300 : Own B w0 w297 ([some (lch b1 104 [iv mem, iv pat, .slice ma f1.length mc, .slice ga f2.length gc])]) := by exact hO298.sub (List.singleton_sublist.2 (by simp))
     refine ⟨hS300, ?_⟩
     refine rhl_v 3 rfl (by kernel_rfl) rfl rfl rfl hS300 (fun _ hS => ov_buildL rfl lay_191 rfl (us := [_, _, _, _, _, _]) rfl) ?_
     refine rhl_any3 4 11 16 (by kernel_rfl) ?_ ?_ ?_
     ·refine rcl_op rfl rfl (ow_box _ rfl rfl rfl rfl rfl hO298) ?_
      rintro _ w301 ⟨bc, rfl, hO302, hs303⟩
      have hS304 : Own B w0 w301 ([some (lch b1 104 [iv mem, iv pat, .slice ma f1.length mc, .slice ga f2.length gc])]) := by exact hO302.sub (List.singleton_sublist.2 (by simp))
      refine ⟨hS304, ?_⟩
      refine rhl_v 5 rfl (by kernel_rfl) rfl rfl rfl hS304 (fun _ hS => ov_iface rfl Try.underlying185 (by intro _ h; cases h) rfl) ?_
      refine rhl_any2 11 16 (by kernel_rfl) ?_ ?_
      ·refine rcl_op rfl rfl (ow_box _ rfl rfl rfl rfl rfl hO302) ?_
       rintro _ w305 ⟨bs1, rfl, hO306, hs307⟩
       have hS308 : Own B w0 w305 ([some (lch b1 104 [iv mem, iv pat, .slice ma f1.length mc, .slice ga f2.length gc])]) := by exact hO306.sub (List.singleton_sublist.2 (by simp))
       refine ⟨hS308, ?_⟩
       refine rhl_v 12 rfl (by kernel_rfl) rfl rfl rfl hS308 (fun _ hS => ov_iface rfl Try.underlying192 (by intro _ h; cases h) rfl) ?_
       refine rhl_any1 16 (by kernel_rfl) ?_
       refine rcl_op rfl rfl (ow_call2 callable_72 rfl rfl rfl rfl rfl (cloneI_any ga f2.length gc B (gl f2) _ w0 w305 hO306 (fun B w0 w hO => h2 B w0 w (hO.sub (.cons _ (.cons _ (.cons _ (.cons _ (.cons _ (.cons _ (.refl _))))))))) hl2) (by intro e w' hp; obtain ⟨v2, c2, rfl, hr2, hOb⟩ := hp; exact ⟨_, rfl⟩)) ?_
       rintro _ w311 ⟨_, v309, he312, rfl, hp310⟩
       obtain ⟨v2, c2, rfl, hr2, hOb⟩ := hp310
       injection he312 with he312; subst he312
       have hS313 : Own B w0 w311 ([some (lch b1 104 [iv mem, iv pat, .slice ma f1.length mc, .slice ga f2.length gc])]) := by exact hOb.sub (List.singleton_sublist.2 (by simp))
       refine ⟨hS313, ?_⟩
       obtain ⟨a2, p2, rfl⟩ := hr2.val
       refine rhl_v 17 rfl (by kernel_rfl) rfl rfl rfl hS313 (fun _ hS => ov_buildL rfl lay_194 rfl (us := [_, _, _, _, _, _, _]) rfl) ?_
       refine rhl_any1 18 (by kernel_rfl) ?_
       refine rcl_op rfl rfl (ow_box _ rfl rfl rfl rfl rfl hOb) ?_
       rintro _ w314 ⟨bs2, rfl, hO315, hs316⟩
       have hS317 : Own B w0 w314 ([some (lch b1 104 [iv mem, iv pat, .slice ma f1.length mc, .slice ga f2.length gc])]) := by exact hO315.sub (List.singleton_sublist.2 (by simp))
       refine ⟨hS317, ?_⟩
       refine rhl_v 19 rfl (by kernel_rfl) rfl rfl rfl hS317 (fun _ hS => ov_iface rfl Try.underlying192 (by intro _ h; cases h) rfl) ?_
       refine rhl_v 20 rfl (by kernel_rfl) rfl rfl rfl hS317 (fun _ hS => ov_buildNodes rfl rfl rfl rfl) ?_
       refine rhl_any1 21 (by kernel_rfl) ?_
       refine rcl_op rfl rfl (ow_v rfl rfl (ov_nil rfl rfl)) ?_
       rintro _ _ ⟨rfl, hw318⟩
       replace hw318 := hw318.symm; subst hw318
       refine ⟨hS317, ?_⟩
       refine rhl_any1 22 (by kernel_rfl) ?_
       refine rcl_op rfl rfl (ow_v rfl rfl (ov_fieldS rfl Try.underlying184 rfl (fo := 5) rfl (by kernel_rfl) rfl)) ?_
       rintro _ _ ⟨rfl, hw319⟩
       replace hw319 := hw319.symm; subst hw319
       refine ⟨hS317, ?_⟩
       refine rhl_any1 23 (by kernel_rfl) ?_
       refine rcl_last rfl rfl (ow_storeP rfl rfl (by kernel_rfl) hO315 6 rfl rfl rfl rfl rfl rfl) ?_
       rintro _ w320 ⟨rfl, hO321, hs322⟩
       refine rhl_done (by kernel_rfl) ?_
       refine run_seq <| run_region <| rl_v rfl rfl rfl (ov_move rfl rfl) <| rl_v rfl rfl rfl (ov_assign rfl rfl) <| rl_v rfl rfl rfl (ov_assign rfl rfl) <| rl_nil <| run_ret Try.func50 (res2 Try.results50 rfl rfl) ?_
       exact .inr ⟨badn, ⟨bw, bc, bs1, bs2⟩, rfl, freshWorld hr1 hr2 (((((((hO321.perm (perm_front (k := 1) rfl)).perm (perm_front (k := 5) rfl)).perm (perm_front (k := 5) rfl)).perm (perm_front (k := 3) rfl)).perm (perm_front (k := 4) rfl)).perm (perm_front (k := 5) rfl)).perm (perm_front (k := 6) rfl))⟩
      ·refine rcl_op rfl rfl (ow_call2 callable_72 rfl rfl rfl rfl rfl (cloneI_any ga f2.length gc B (gl f2) _ w0 w301 hO302 (fun B w0 w hO => h2 B w0 w (hO.sub (.cons _ (.cons _ (.cons _ (.cons _ (.cons _ (.refl _)))))))) hl2) (by intro e w' hp; obtain ⟨v2, c2, rfl, hr2, hOb⟩ := hp; exact ⟨_, rfl⟩)) ?_
       rintro _ w325 ⟨_, v323, he326, rfl, hp324⟩
       obtain ⟨v2, c2, rfl, hr2, hOb⟩ := hp324
       injection he326 with he326; subst he326
       have hS327 : Own B w0 w325 ([some (lch b1 104 [iv mem, iv pat, .slice ma f1.length mc, .slice ga f2.length gc])]) := by exact hOb.sub (List.singleton_sublist.2 (by simp))
       refine ⟨hS327, ?_⟩
       obtain ⟨a2, p2, rfl⟩ := hr2.val
       refine rhl_v 17 rfl (by kernel_rfl) rfl rfl rfl hS327 (fun _ hS => ov_buildL rfl lay_194 rfl (us := [_, _, _, _, _, _, _]) rfl) ?_
       refine rhl_any2 11 18 (by kernel_rfl) ?_ ?_
       ·refine rcl_op rfl rfl (ow_box _ rfl rfl rfl rfl rfl hOb) ?_
        rintro _ w328 ⟨bs1, rfl, hO329, hs330⟩
        have hS331 : Own B w0 w328 ([some (lch b1 104 [iv mem, iv pat, .slice ma f1.length mc, .slice ga f2.length gc])]) := by exact hO329.sub (List.singleton_sublist.2 (by simp))
        refine ⟨hS331, ?_⟩
        refine rhl_v 12 rfl (by kernel_rfl) rfl rfl rfl hS331 (fun _ hS => ov_iface rfl Try.underlying192 (by intro _ h; cases h) rfl) ?_
        refine rhl_any1 18 (by kernel_rfl) ?_
        refine rcl_op rfl rfl (ow_box _ rfl rfl rfl rfl rfl hO329) ?_
        rintro _ w332 ⟨bs2, rfl, hO333, hs334⟩
        have hS335 : Own B w0 w332 ([some (lch b1 104 [iv mem, iv pat, .slice ma f1.length mc, .slice ga f2.length gc])]) := by exact hO333.sub (List.singleton_sublist.2 (by simp))
        refine ⟨hS335, ?_⟩
        refine rhl_v 19 rfl (by kernel_rfl) rfl rfl rfl hS335 (fun _ hS => ov_iface rfl Try.underlying192 (by intro _ h; cases h) rfl) ?_
        refine rhl_v 20 rfl (by kernel_rfl) rfl rfl rfl hS335 (fun _ hS => ov_buildNodes rfl rfl rfl rfl) ?_
        refine rhl_any1 21 (by kernel_rfl) ?_
        refine rcl_op rfl rfl (ow_v rfl rfl (ov_nil rfl rfl)) ?_
        rintro _ _ ⟨rfl, hw336⟩
        replace hw336 := hw336.symm; subst hw336
        refine ⟨hS335, ?_⟩
        refine rhl_any1 22 (by kernel_rfl) ?_
        refine rcl_op rfl rfl (ow_v rfl rfl (ov_fieldS rfl Try.underlying184 rfl (fo := 5) rfl (by kernel_rfl) rfl)) ?_
        rintro _ _ ⟨rfl, hw337⟩
        replace hw337 := hw337.symm; subst hw337
        refine ⟨hS335, ?_⟩
        refine rhl_any1 23 (by kernel_rfl) ?_
        refine rcl_last rfl rfl (ow_storeP rfl rfl (by kernel_rfl) hO333 6 rfl rfl rfl rfl rfl rfl) ?_
        rintro _ w338 ⟨rfl, hO339, hs340⟩
        refine rhl_done (by kernel_rfl) ?_
        refine run_seq <| run_region <| rl_v rfl rfl rfl (ov_move rfl rfl) <| rl_v rfl rfl rfl (ov_assign rfl rfl) <| rl_v rfl rfl rfl (ov_assign rfl rfl) <| rl_nil <| run_ret Try.func50 (res2 Try.results50 rfl rfl) ?_
        exact .inr ⟨badn, ⟨bw, bc, bs1, bs2⟩, rfl, freshWorld hr1 hr2 (((((((hO339.perm (perm_front (k := 2) rfl)).perm (perm_front (k := 5) rfl)).perm (perm_front (k := 5) rfl)).perm (perm_front (k := 3) rfl)).perm (perm_front (k := 4) rfl)).perm (perm_front (k := 5) rfl)).perm (perm_front (k := 6) rfl))⟩
       ·refine rcl_op rfl rfl (ow_box _ rfl rfl rfl rfl rfl hOb) ?_
        rintro _ w341 ⟨bs2, rfl, hO342, hs343⟩
        have hS344 : Own B w0 w341 ([some (lch b1 104 [iv mem, iv pat, .slice ma f1.length mc, .slice ga f2.length gc])]) := by exact hO342.sub (List.singleton_sublist.2 (by simp))
        refine ⟨hS344, ?_⟩
        refine rhl_v 19 rfl (by kernel_rfl) rfl rfl rfl hS344 (fun _ hS => ov_iface rfl Try.underlying192 (by intro _ h; cases h) rfl) ?_
        refine rhl_any1 11 (by kernel_rfl) ?_
        refine rcl_op rfl rfl (ow_box _ rfl rfl rfl rfl rfl hO342) ?_
        rintro _ w345 ⟨bs1, rfl, hO346, hs347⟩
        have hS348 : Own B w0 w345 ([some (lch b1 104 [iv mem, iv pat, .slice ma f1.length mc, .slice ga f2.length gc])]) := by exact hO346.sub (List.singleton_sublist.2 (by simp))
        refine ⟨hS348, ?_⟩
        refine rhl_v 12 rfl (by kernel_rfl) rfl rfl rfl hS348 (fun _ hS => ov_iface rfl Try.underlying192 (by intro _ h; cases h) rfl) ?_
        refine rhl_v 20 rfl (by kernel_rfl) rfl rfl rfl hS348 (fun _ hS => ov_buildNodes rfl rfl rfl rfl) ?_
        refine rhl_any1 21 (by kernel_rfl) ?_
        refine rcl_op rfl rfl (ow_v rfl rfl (ov_nil rfl rfl)) ?_
        rintro _ _ ⟨rfl, hw349⟩
        replace hw349 := hw349.symm; subst hw349
        refine ⟨hS348, ?_⟩
        refine rhl_any1 22 (by kernel_rfl) ?_
        refine rcl_op rfl rfl (ow_v rfl rfl (ov_fieldS rfl Try.underlying184 rfl (fo := 5) rfl (by kernel_rfl) rfl)) ?_
        rintro _ _ ⟨rfl, hw350⟩
        replace hw350 := hw350.symm; subst hw350
        refine ⟨hS348, ?_⟩
        refine rhl_any1 23 (by kernel_rfl) ?_
        refine rcl_last rfl rfl (ow_storeP rfl rfl (by kernel_rfl) hO346 6 rfl rfl rfl rfl rfl rfl) ?_
        rintro _ w351 ⟨rfl, hO352, hs353⟩
        refine rhl_done (by kernel_rfl) ?_
        refine run_seq <| run_region <| rl_v rfl rfl rfl (ov_move rfl rfl) <| rl_v rfl rfl rfl (ov_assign rfl rfl) <| rl_v rfl rfl rfl (ov_assign rfl rfl) <| rl_nil <| run_ret Try.func50 (res2 Try.results50 rfl rfl) ?_
        exact .inr ⟨badn, ⟨bw, bc, bs1, bs2⟩, rfl, freshWorld hr1 hr2 (((((((hO352.perm (perm_front (k := 2) rfl)).perm (perm_front (k := 5) rfl)).perm (perm_front (k := 5) rfl)).perm (perm_front (k := 4) rfl)).perm (perm_front (k := 4) rfl)).perm (perm_front (k := 5) rfl)).perm (perm_front (k := 6) rfl))⟩
     ·refine rcl_op rfl rfl (ow_box _ rfl rfl rfl rfl rfl hO298) ?_
      rintro _ w354 ⟨bs1, rfl, hO355, hs356⟩
      have hS357 : Own B w0 w354 ([some (lch b1 104 [iv mem, iv pat, .slice ma f1.length mc, .slice ga f2.length gc])]) := by exact hO355.sub (List.singleton_sublist.2 (by simp))
      refine ⟨hS357, ?_⟩
      refine rhl_v 12 rfl (by kernel_rfl) rfl rfl rfl hS357 (fun _ hS => ov_iface rfl Try.underlying192 (by intro _ h; cases h) rfl) ?_
      refine rhl_any2 4 16 (by kernel_rfl) ?_ ?_
      ·refine rcl_op rfl rfl (ow_box _ rfl rfl rfl rfl rfl hO355) ?_
       rintro _ w358 ⟨bc, rfl, hO359, hs360⟩
       have hS361 : Own B w0 w358 ([some (lch b1 104 [iv mem, iv pat, .slice ma f1.length mc, .slice ga f2.length gc])]) := by exact hO359.sub (List.singleton_sublist.2 (by simp))
       refine ⟨hS361, ?_⟩
       refine rhl_v 5 rfl (by kernel_rfl) rfl rfl rfl hS361 (fun _ hS => ov_iface rfl Try.underlying185 (by intro _ h; cases h) rfl) ?_
       refine rhl_any1 16 (by kernel_rfl) ?_
       refine rcl_op rfl rfl (ow_call2 callable_72 rfl rfl rfl rfl rfl (cloneI_any ga f2.length gc B (gl f2) _ w0 w358 hO359 (fun B w0 w hO => h2 B w0 w (hO.sub (.cons _ (.cons _ (.cons _ (.cons _ (.cons _ (.cons _ (.refl _))))))))) hl2) (by intro e w' hp; obtain ⟨v2, c2, rfl, hr2, hOb⟩ := hp; exact ⟨_, rfl⟩)) ?_
       rintro _ w364 ⟨_, v362, he365, rfl, hp363⟩
       obtain ⟨v2, c2, rfl, hr2, hOb⟩ := hp363
       injection he365 with he365; subst he365
       have hS366 : Own B w0 w364 ([some (lch b1 104 [iv mem, iv pat, .slice ma f1.length mc, .slice ga f2.length gc])]) := by exact hOb.sub (List.singleton_sublist.2 (by simp))
       refine ⟨hS366, ?_⟩
       obtain ⟨a2, p2, rfl⟩ := hr2.val
       refine rhl_v 17 rfl (by kernel_rfl) rfl rfl rfl hS366 (fun _ hS => ov_buildL rfl lay_194 rfl (us := [_, _, _, _, _, _, _]) rfl) ?_
       refine rhl_any1 18 (by kernel_rfl) ?_
       refine rcl_op rfl rfl (ow_box _ rfl rfl rfl rfl rfl hOb) ?_
       rintro _ w367 ⟨bs2, rfl, hO368, hs369⟩
       have hS370 : Own B w0 w367 ([some (lch b1 104 [iv mem, iv pat, .slice ma f1.length mc, .slice ga f2.length gc])]) := by exact hO368.sub (List.singleton_sublist.2 (by simp))
       refine ⟨hS370, ?_⟩
       refine rhl_v 19 rfl (by kernel_rfl) rfl rfl rfl hS370 (fun _ hS => ov_iface rfl Try.underlying192 (by intro _ h; cases h) rfl) ?_
       refine rhl_v 20 rfl (by kernel_rfl) rfl rfl rfl hS370 (fun _ hS => ov_buildNodes rfl rfl rfl rfl) ?_
       refine rhl_any1 21 (by kernel_rfl) ?_
       refine rcl_op rfl rfl (ow_v rfl rfl (ov_nil rfl rfl)) ?_
       rintro _ _ ⟨rfl, hw371⟩
       replace hw371 := hw371.symm; subst hw371
       refine ⟨hS370, ?_⟩
       refine rhl_any1 22 (by kernel_rfl) ?_
       refine rcl_op rfl rfl (ow_v rfl rfl (ov_fieldS rfl Try.underlying184 rfl (fo := 5) rfl (by kernel_rfl) rfl)) ?_
       rintro _ _ ⟨rfl, hw372⟩
       replace hw372 := hw372.symm; subst hw372
       refine ⟨hS370, ?_⟩
       refine rhl_any1 23 (by kernel_rfl) ?_
       refine rcl_last rfl rfl (ow_storeP rfl rfl (by kernel_rfl) hO368 6 rfl rfl rfl rfl rfl rfl) ?_
       rintro _ w373 ⟨rfl, hO374, hs375⟩
       refine rhl_done (by kernel_rfl) ?_
       refine run_seq <| run_region <| rl_v rfl rfl rfl (ov_move rfl rfl) <| rl_v rfl rfl rfl (ov_assign rfl rfl) <| rl_v rfl rfl rfl (ov_assign rfl rfl) <| rl_nil <| run_ret Try.func50 (res2 Try.results50 rfl rfl) ?_
       exact .inr ⟨badn, ⟨bw, bc, bs1, bs2⟩, rfl, freshWorld hr1 hr2 (((((((hO374.perm (perm_front (k := 1) rfl)).perm (perm_front (k := 5) rfl)).perm (perm_front (k := 5) rfl)).perm (perm_front (k := 3) rfl)).perm (perm_front (k := 5) rfl)).perm (perm_front (k := 5) rfl)).perm (perm_front (k := 6) rfl))⟩
      ·refine rcl_op rfl rfl (ow_call2 callable_72 rfl rfl rfl rfl rfl (cloneI_any ga f2.length gc B (gl f2) _ w0 w354 hO355 (fun B w0 w hO => h2 B w0 w (hO.sub (.cons _ (.cons _ (.cons _ (.cons _ (.cons _ (.refl _)))))))) hl2) (by intro e w' hp; obtain ⟨v2, c2, rfl, hr2, hOb⟩ := hp; exact ⟨_, rfl⟩)) ?_
       rintro _ w378 ⟨_, v376, he379, rfl, hp377⟩
       obtain ⟨v2, c2, rfl, hr2, hOb⟩ := hp377
       injection he379 with he379; subst he379
       have hS380 : Own B w0 w378 ([some (lch b1 104 [iv mem, iv pat, .slice ma f1.length mc, .slice ga f2.length gc])]) := by exact hOb.sub (List.singleton_sublist.2 (by simp))
       refine ⟨hS380, ?_⟩
       obtain ⟨a2, p2, rfl⟩ := hr2.val
       refine rhl_v 17 rfl (by kernel_rfl) rfl rfl rfl hS380 (fun _ hS => ov_buildL rfl lay_194 rfl (us := [_, _, _, _, _, _, _]) rfl) ?_
       refine rhl_any2 4 18 (by kernel_rfl) ?_ ?_
       ·refine rcl_op rfl rfl (ow_box _ rfl rfl rfl rfl rfl hOb) ?_
        rintro _ w381 ⟨bc, rfl, hO382, hs383⟩
        have hS384 : Own B w0 w381 ([some (lch b1 104 [iv mem, iv pat, .slice ma f1.length mc, .slice ga f2.length gc])]) := by exact hO382.sub (List.singleton_sublist.2 (by simp))
        refine ⟨hS384, ?_⟩
        refine rhl_v 5 rfl (by kernel_rfl) rfl rfl rfl hS384 (fun _ hS => ov_iface rfl Try.underlying185 (by intro _ h; cases h) rfl) ?_
        refine rhl_any1 18 (by kernel_rfl) ?_
        refine rcl_op rfl rfl (ow_box _ rfl rfl rfl rfl rfl hO382) ?_
        rintro _ w385 ⟨bs2, rfl, hO386, hs387⟩
        have hS388 : Own B w0 w385 ([some (lch b1 104 [iv mem, iv pat, .slice ma f1.length mc, .slice ga f2.length gc])]) := by exact hO386.sub (List.singleton_sublist.2 (by simp))
        refine ⟨hS388, ?_⟩
        refine rhl_v 19 rfl (by kernel_rfl) rfl rfl rfl hS388 (fun _ hS => ov_iface rfl Try.underlying192 (by intro _ h; cases h) rfl) ?_
        refine rhl_v 20 rfl (by kernel_rfl) rfl rfl rfl hS388 (fun _ hS => ov_buildNodes rfl rfl rfl rfl) ?_
        refine rhl_any1 21 (by kernel_rfl) ?_
        refine rcl_op rfl rfl (ow_v rfl rfl (ov_nil rfl rfl)) ?_
        rintro _ _ ⟨rfl, hw389⟩
        replace hw389 := hw389.symm; subst hw389
        refine ⟨hS388, ?_⟩
        refine rhl_any1 22 (by kernel_rfl) ?_
        refine rcl_op rfl rfl (ow_v rfl rfl (ov_fieldS rfl Try.underlying184 rfl (fo := 5) rfl (by kernel_rfl) rfl)) ?_
        rintro _ _ ⟨rfl, hw390⟩
        replace hw390 := hw390.symm; subst hw390
        refine ⟨hS388, ?_⟩
        refine rhl_any1 23 (by kernel_rfl) ?_
        refine rcl_last rfl rfl (ow_storeP rfl rfl (by kernel_rfl) hO386 6 rfl rfl rfl rfl rfl rfl) ?_
        rintro _ w391 ⟨rfl, hO392, hs393⟩
        refine rhl_done (by kernel_rfl) ?_
        refine run_seq <| run_region <| rl_v rfl rfl rfl (ov_move rfl rfl) <| rl_v rfl rfl rfl (ov_assign rfl rfl) <| rl_v rfl rfl rfl (ov_assign rfl rfl) <| rl_nil <| run_ret Try.func50 (res2 Try.results50 rfl rfl) ?_
        exact .inr ⟨badn, ⟨bw, bc, bs1, bs2⟩, rfl, freshWorld hr1 hr2 (((((((hO392.perm (perm_front (k := 2) rfl)).perm (perm_front (k := 5) rfl)).perm (perm_front (k := 5) rfl)).perm (perm_front (k := 3) rfl)).perm (perm_front (k := 5) rfl)).perm (perm_front (k := 5) rfl)).perm (perm_front (k := 6) rfl))⟩
       ·refine rcl_op rfl rfl (ow_box _ rfl rfl rfl rfl rfl hOb) ?_
        rintro _ w394 ⟨bs2, rfl, hO395, hs396⟩
        have hS397 : Own B w0 w394 ([some (lch b1 104 [iv mem, iv pat, .slice ma f1.length mc, .slice ga f2.length gc])]) := by exact hO395.sub (List.singleton_sublist.2 (by simp))
        refine ⟨hS397, ?_⟩
        refine rhl_v 19 rfl (by kernel_rfl) rfl rfl rfl hS397 (fun _ hS => ov_iface rfl Try.underlying192 (by intro _ h; cases h) rfl) ?_
        refine rhl_any1 4 (by kernel_rfl) ?_
        refine rcl_op rfl rfl (ow_box _ rfl rfl rfl rfl rfl hO395) ?_
        rintro _ w398 ⟨bc, rfl, hO399, hs400⟩
        have hS401 : Own B w0 w398 ([some (lch b1 104 [iv mem, iv pat, .slice ma f1.length mc, .slice ga f2.length gc])]) := by exact hO399.sub (List.singleton_sublist.2 (by simp))
        refine ⟨hS401, ?_⟩
        refine rhl_v 5 rfl (by kernel_rfl) rfl rfl rfl hS401 (fun _ hS => ov_iface rfl Try.underlying185 (by intro _ h; cases h) rfl) ?_
        refine rhl_v 20 rfl (by kernel_rfl) rfl rfl rfl hS401 (fun _ hS => ov_buildNodes rfl rfl rfl rfl) ?_
        refine rhl_any1 21 (by kernel_rfl) ?_
        refine rcl_op rfl rfl (ow_v rfl rfl (ov_nil rfl rfl)) ?_
        rintro _ _ ⟨rfl, hw402⟩
        replace hw402 := hw402.symm; subst hw402
        refine ⟨hS401, ?_⟩
        refine rhl_any1 22 (by kernel_rfl) ?_
        refine rcl_op rfl rfl (ow_v rfl rfl (ov_fieldS rfl Try.underlying184 rfl (fo := 5) rfl (by kernel_rfl) rfl)) ?_
        rintro _ _ ⟨rfl, hw403⟩
        replace hw403 := hw403.symm; subst hw403
        refine ⟨hS401, ?_⟩
        refine rhl_any1 23 (by kernel_rfl) ?_
        refine rcl_last rfl rfl (ow_storeP rfl rfl (by kernel_rfl) hO399 6 rfl rfl rfl rfl rfl rfl) ?_
        rintro _ w404 ⟨rfl, hO405, hs406⟩
        refine rhl_done (by kernel_rfl) ?_
        refine run_seq <| run_region <| rl_v rfl rfl rfl (ov_move rfl rfl) <| rl_v rfl rfl rfl (ov_assign rfl rfl) <| rl_v rfl rfl rfl (ov_assign rfl rfl) <| rl_nil <| run_ret Try.func50 (res2 Try.results50 rfl rfl) ?_
        exact .inr ⟨badn, ⟨bw, bc, bs1, bs2⟩, rfl, freshWorld hr1 hr2 (((((((hO405.perm (perm_front (k := 2) rfl)).perm (perm_front (k := 5) rfl)).perm (perm_front (k := 5) rfl)).perm (perm_front (k := 4) rfl)).perm (perm_front (k := 5) rfl)).perm (perm_front (k := 5) rfl)).perm (perm_front (k := 6) rfl))⟩
     ·refine rcl_op rfl rfl (ow_call2 callable_72 rfl rfl rfl rfl rfl (cloneI_any ga f2.length gc B (gl f2) _ w0 w297 hO298 (fun B w0 w hO => h2 B w0 w (hO.sub (.cons _ (.cons _ (.cons _ (.cons _ (.refl _))))))) hl2) (by intro e w' hp; obtain ⟨v2, c2, rfl, hr2, hOb⟩ := hp; exact ⟨_, rfl⟩)) ?_
      rintro _ w409 ⟨_, v407, he410, rfl, hp408⟩
      obtain ⟨v2, c2, rfl, hr2, hOb⟩ := hp408
      injection he410 with he410; subst he410
      have hS411 : Own B w0 w409 ([some (lch b1 104 [iv mem, iv pat, .slice ma f1.length mc, .slice ga f2.length gc])]) := by exact hOb.sub (List.singleton_sublist.2 (by simp))
      refine ⟨hS411, ?_⟩
      obtain ⟨a2, p2, rfl⟩ := hr2.val
      refine rhl_v 17 rfl (by kernel_rfl) rfl rfl rfl hS411 (fun _ hS => ov_buildL rfl lay_194 rfl (us := [_, _, _, _, _, _, _]) rfl) ?_
      refine rhl_any3 4 11 18 (by kernel_rfl) ?_ ?_ ?_
      ·refine rcl_op rfl rfl (ow_box _ rfl rfl rfl rfl rfl hOb) ?_
       rintro _ w412 ⟨bc, rfl, hO413, hs414⟩
       have hS415 : Own B w0 w412 ([some (lch b1 104 [iv mem, iv pat, .slice ma f1.length mc, .slice ga f2.length gc])]) := by exact hO413.sub (List.singleton_sublist.2 (by simp))
       refine ⟨hS415, ?_⟩
       refine rhl_v 5 rfl (by kernel_rfl) rfl rfl rfl hS415 (fun _ hS => ov_iface rfl Try.underlying185 (by intro _ h; cases h) rfl) ?_
       refine rhl_any2 11 18 (by kernel_rfl) ?_ ?_
       ·refine rcl_op rfl rfl (ow_box _ rfl rfl rfl rfl rfl hO413) ?_
        rintro _ w416 ⟨bs1, rfl, hO417, hs418⟩
        have hS419 : Own B w0 w416 ([some (lch b1 104 [iv mem, iv pat, .slice ma f1.length mc, .slice ga f2.length gc])]) := by exact hO417.sub (List.singleton_sublist.2 (by simp))
        refine ⟨hS419, ?_⟩
        refine rhl_v 12 rfl (by kernel_rfl) rfl rfl rfl hS419 (fun _ hS => ov_iface rfl Try.underlying192 (by intro _ h; cases h) rfl) ?_
        refine rhl_any1 18 (by kernel_rfl) ?_
        refine rcl_op rfl rfl (ow_box _ rfl rfl rfl rfl rfl hO417) ?_
        rintro _ w420 ⟨bs2, rfl, hO421, hs422⟩
        have hS423 : Own B w0 w420 ([some (lch b1 104 [iv mem, iv pat, .slice ma f1.length mc, .slice ga f2.length gc])]) := by exact hO421.sub (List.singleton_sublist.2 (by simp))
        refine ⟨hS423, ?_⟩
        refine rhl_v 19 rfl (by kernel_rfl) rfl rfl rfl hS423 (fun _ hS => ov_iface rfl Try.underlying192 (by intro _ h; cases h) rfl) ?_
        refine rhl_v 20 rfl (by kernel_rfl) rfl rfl rfl hS423 (fun _ hS => ov_buildNodes rfl rfl rfl rfl) ?_
        refine rhl_any1 21 (by kernel_rfl) ?_
        refine rcl_op rfl rfl (ow_v rfl rfl (ov_nil rfl rfl)) ?_
        rintro _ _ ⟨rfl, hw424⟩
        replace hw424 := hw424.symm; subst hw424
        refine ⟨hS423, ?_⟩
        refine rhl_any1 22 (by kernel_rfl) ?_
        refine rcl_op rfl rfl (ow_v rfl rfl (ov_fieldS rfl Try.underlying184 rfl (fo := 5) rfl (by kernel_rfl) rfl)) ?_
        rintro _ _ ⟨rfl, hw425⟩
        replace hw425 := hw425.symm; subst hw425
        refine ⟨hS423, ?_⟩
        refine rhl_any1 23 (by kernel_rfl) ?_
        refine rcl_last rfl rfl (ow_storeP rfl rfl (by kernel_rfl) hO421 6 rfl rfl rfl rfl rfl rfl) ?_
        rintro _ w426 ⟨rfl, hO427, hs428⟩
        refine rhl_done (by kernel_rfl) ?_
        refine run_seq <| run_region <| rl_v rfl rfl rfl (ov_move rfl rfl) <| rl_v rfl rfl rfl (ov_assign rfl rfl) <| rl_v rfl rfl rfl (ov_assign rfl rfl) <| rl_nil <| run_ret Try.func50 (res2 Try.results50 rfl rfl) ?_
        exact .inr ⟨badn, ⟨bw, bc, bs1, bs2⟩, rfl, freshWorld hr1 hr2 (((((((hO427.perm (perm_front (k := 3) rfl)).perm (perm_front (k := 5) rfl)).perm (perm_front (k := 5) rfl)).perm (perm_front (k := 3) rfl)).perm (perm_front (k := 4) rfl)).perm (perm_front (k := 5) rfl)).perm (perm_front (k := 6) rfl))⟩
       ·refine rcl_op rfl rfl (ow_box _ rfl rfl rfl rfl rfl hO413) ?_
        rintro _ w429 ⟨bs2, rfl, hO430, hs431⟩
        have hS432 : Own B w0 w429 ([some (lch b1 104 [iv mem, iv pat, .slice ma f1.length mc, .slice ga f2.length gc])]) := by exact hO430.sub (List.singleton_sublist.2 (by simp))
        refine ⟨hS432, ?_⟩
        refine rhl_v 19 rfl (by kernel_rfl) rfl rfl rfl hS432 (fun _ hS => ov_iface rfl Try.underlying192 (by intro _ h; cases h) rfl) ?_
        refine rhl_any1 11 (by kernel_rfl) ?_
        refine rcl_op rfl rfl (ow_box _ rfl rfl rfl rfl rfl hO430) ?_
        rintro _ w433 ⟨bs1, rfl, hO434, hs435⟩
        have hS436 : Own B w0 w433 ([some (lch b1 104 [iv mem, iv pat, .slice ma f1.length mc, .slice ga f2.length gc])]) := by exact hO434.sub (List.singleton_sublist.2 (by simp))
        refine ⟨hS436, ?_⟩
        refine rhl_v 12 rfl (by kernel_rfl) rfl rfl rfl hS436 (fun _ hS => ov_iface rfl Try.underlying192 (by intro _ h; cases h) rfl) ?_
        refine rhl_v 20 rfl (by kernel_rfl) rfl rfl rfl hS436 (fun _ hS => ov_buildNodes rfl rfl rfl rfl) ?_
        refine rhl_any1 21 (by kernel_rfl) ?_
        refine rcl_op rfl rfl (ow_v rfl rfl (ov_nil rfl rfl)) ?_
        rintro _ _ ⟨rfl, hw437⟩
        replace hw437 := hw437.symm; subst hw437
        refine ⟨hS436, ?_⟩
        refine rhl_any1 22 (by kernel_rfl) ?_
        refine rcl_op rfl rfl (ow_v rfl rfl (ov_fieldS rfl Try.underlying184 rfl (fo := 5) rfl (by kernel_rfl) rfl)) ?_
        rintro _ _ ⟨rfl, hw438⟩
        replace hw438 := hw438.symm; subst hw438
        refine ⟨hS436, ?_⟩
        refine rhl_any1 23 (by kernel_rfl) ?_
        refine rcl_last rfl rfl (ow_storeP rfl rfl (by kernel_rfl) hO434 6 rfl rfl rfl rfl rfl rfl) ?_
        rintro _ w439 ⟨rfl, hO440, hs441⟩
        refine rhl_done (by kernel_rfl) ?_
        refine run_seq <| run_region <| rl_v rfl rfl rfl (ov_move rfl rfl) <| rl_v rfl rfl rfl (ov_assign rfl rfl) <| rl_v rfl rfl rfl (ov_assign rfl rfl) <| rl_nil <| run_ret Try.func50 (res2 Try.results50 rfl rfl) ?_
        exact .inr ⟨badn, ⟨bw, bc, bs1, bs2⟩, rfl, freshWorld hr1 hr2 (((((((hO440.perm (perm_front (k := 3) rfl)).perm (perm_front (k := 5) rfl)).perm (perm_front (k := 5) rfl)).perm (perm_front (k := 4) rfl)).perm (perm_front (k := 4) rfl)).perm (perm_front (k := 5) rfl)).perm (perm_front (k := 6) rfl))⟩
      ·refine rcl_op rfl rfl (ow_box _ rfl rfl rfl rfl rfl hOb) ?_
       rintro _ w442 ⟨bs1, rfl, hO443, hs444⟩
       have hS445 : Own B w0 w442 ([some (lch b1 104 [iv mem, iv pat, .slice ma f1.length mc, .slice ga f2.length gc])]) := by exact hO443.sub (List.singleton_sublist.2 (by simp))
       refine ⟨hS445, ?_⟩
       refine rhl_v 12 rfl (by kernel_rfl) rfl rfl rfl hS445 (fun _ hS => ov_iface rfl Try.underlying192 (by intro _ h; cases h) rfl) ?_
       refine rhl_any2 4 18 (by kernel_rfl) ?_ ?_
       ·refine rcl_op rfl rfl (ow_box _ rfl rfl rfl rfl rfl hO443) ?_
        rintro _ w446 ⟨bc, rfl, hO447, hs448⟩
        have hS449 : Own B w0 w446 ([some (lch b1 104 [iv mem, iv pat, .slice ma f1.length mc, .slice ga f2.length gc])]) := by exact hO447.sub (List.singleton_sublist.2 (by simp))
        refine ⟨hS449, ?_⟩
        refine rhl_v 5 rfl (by kernel_rfl) rfl rfl rfl hS449 (fun _ hS => ov_iface rfl Try.underlying185 (by intro _ h; cases h) rfl) ?_
        refine rhl_any1 18 (by kernel_rfl) ?_
        refine rcl_op rfl rfl (ow_box _ rfl rfl rfl rfl rfl hO447) ?_
        rintro _ w450 ⟨bs2, rfl, hO451, hs452⟩
        have hS453 : Own B w0 w450 ([some (lch b1 104 [iv mem, iv pat, .slice ma f1.length mc, .slice ga f2.length gc])]) := by exact hO451.sub (List.singleton_sublist.2 (by simp))
        refine ⟨hS453, ?_⟩
        refine rhl_v 19 rfl (by kernel_rfl) rfl rfl rfl hS453 (fun _ hS => ov_iface rfl Try.underlying192 (by intro _ h; cases h) rfl) ?_
        refine rhl_v 20 rfl (by kernel_rfl) rfl rfl rfl hS453 (fun _ hS => ov_buildNodes rfl rfl rfl rfl) ?_
        refine rhl_any1 21 (by kernel_rfl) ?_
        refine rcl_op rfl rfl (ow_v rfl rfl (ov_nil rfl rfl)) ?_
        rintro _ _ ⟨rfl, hw454⟩
        replace hw454 := hw454.symm; subst hw454
        refine ⟨hS453, ?_⟩
        refine rhl_any1 22 (by kernel_rfl) ?_
        refine rcl_op rfl rfl (ow_v rfl rfl (ov_fieldS rfl Try.underlying184 rfl (fo := 5) rfl (by kernel_rfl) rfl)) ?_
        rintro _ _ ⟨rfl, hw455⟩
        replace hw455 := hw455.symm; subst hw455
        refine ⟨hS453, ?_⟩
        refine rhl_any1 23 (by kernel_rfl) ?_
        refine rcl_last rfl rfl (ow_storeP rfl rfl (by kernel_rfl) hO451 6 rfl rfl rfl rfl rfl rfl) ?_
        rintro _ w456 ⟨rfl, hO457, hs458⟩
        refine rhl_done (by kernel_rfl) ?_
        refine run_seq <| run_region <| rl_v rfl rfl rfl (ov_move rfl rfl) <| rl_v rfl rfl rfl (ov_assign rfl rfl) <| rl_v rfl rfl rfl (ov_assign rfl rfl) <| rl_nil <| run_ret Try.func50 (res2 Try.results50 rfl rfl) ?_
        exact .inr ⟨badn, ⟨bw, bc, bs1, bs2⟩, rfl, freshWorld hr1 hr2 (((((((hO457.perm (perm_front (k := 3) rfl)).perm (perm_front (k := 5) rfl)).perm (perm_front (k := 5) rfl)).perm (perm_front (k := 3) rfl)).perm (perm_front (k := 5) rfl)).perm (perm_front (k := 5) rfl)).perm (perm_front (k := 6) rfl))⟩
       ·refine rcl_op rfl rfl (ow_box _ rfl rfl rfl rfl rfl hO443) ?_
        rintro _ w459 ⟨bs2, rfl, hO460, hs461⟩
        have hS462 : Own B w0 w459 ([some (lch b1 104 [iv mem, iv pat, .slice ma f1.length mc, .slice ga f2.length gc])]) := by exact hO460.sub (List.singleton_sublist.2 (by simp))
        refine ⟨hS462, ?_⟩
        refine rhl_v 19 rfl (by kernel_rfl) rfl rfl rfl hS462 (fun _ hS => ov_iface rfl Try.underlying192 (by intro _ h; cases h) rfl) ?_
        refine rhl_any1 4 (by kernel_rfl) ?_
        refine rcl_op rfl rfl (ow_box _ rfl rfl rfl rfl rfl hO460) ?_
        rintro _ w463 ⟨bc, rfl, hO464, hs465⟩
        have hS466 : Own B w0 w463 ([some (lch b1 104 [iv mem, iv pat, .slice ma f1.length mc, .slice ga f2.length gc])]) := by exact hO464.sub (List.singleton_sublist.2 (by simp))
        refine ⟨hS466, ?_⟩
        refine rhl_v 5 rfl (by kernel_rfl) rfl rfl rfl hS466 (fun _ hS => ov_iface rfl Try.underlying185 (by intro _ h; cases h) rfl) ?_
        refine rhl_v 20 rfl (by kernel_rfl) rfl rfl rfl hS466 (fun _ hS => ov_buildNodes rfl rfl rfl rfl) ?_
        refine rhl_any1 21 (by kernel_rfl) ?_
        refine rcl_op rfl rfl (ow_v rfl rfl (ov_nil rfl rfl)) ?_
        rintro _ _ ⟨rfl, hw467⟩
        replace hw467 := hw467.symm; subst hw467
        refine ⟨hS466, ?_⟩
        refine rhl_any1 22 (by kernel_rfl) ?_
        refine rcl_op rfl rfl (ow_v rfl rfl (ov_fieldS rfl Try.underlying184 rfl (fo := 5) rfl (by kernel_rfl) rfl)) ?_
        rintro _ _ ⟨rfl, hw468⟩
        replace hw468 := hw468.symm; subst hw468
        refine ⟨hS466, ?_⟩
        refine rhl_any1 23 (by kernel_rfl) ?_
        refine rcl_last rfl rfl (ow_storeP rfl rfl (by kernel_rfl) hO464 6 rfl rfl rfl rfl rfl rfl) ?_
        rintro _ w469 ⟨rfl, hO470, hs471⟩
        refine rhl_done (by kernel_rfl) ?_
        refine run_seq <| run_region <| rl_v rfl rfl rfl (ov_move rfl rfl) <| rl_v rfl rfl rfl (ov_assign rfl rfl) <| rl_v rfl rfl rfl (ov_assign rfl rfl) <| rl_nil <| run_ret Try.func50 (res2 Try.results50 rfl rfl) ?_
        exact .inr ⟨badn, ⟨bw, bc, bs1, bs2⟩, rfl, freshWorld hr1 hr2 (((((((hO470.perm (perm_front (k := 3) rfl)).perm (perm_front (k := 5) rfl)).perm (perm_front (k := 5) rfl)).perm (perm_front (k := 4) rfl)).perm (perm_front (k := 5) rfl)).perm (perm_front (k := 5) rfl)).perm (perm_front (k := 6) rfl))⟩
      ·refine rcl_op rfl rfl (ow_box _ rfl rfl rfl rfl rfl hOb) ?_
       rintro _ w472 ⟨bs2, rfl, hO473, hs474⟩
       have hS475 : Own B w0 w472 ([some (lch b1 104 [iv mem, iv pat, .slice ma f1.length mc, .slice ga f2.length gc])]) := by exact hO473.sub (List.singleton_sublist.2 (by simp))
       refine ⟨hS475, ?_⟩
       refine rhl_v 19 rfl (by kernel_rfl) rfl rfl rfl hS475 (fun _ hS => ov_iface rfl Try.underlying192 (by intro _ h; cases h) rfl) ?_
       refine rhl_any2 4 11 (by kernel_rfl) ?_ ?_
       ·refine rcl_op rfl rfl (ow_box _ rfl rfl rfl rfl rfl hO473) ?_
        rintro _ w476 ⟨bc, rfl, hO477, hs478⟩
        have hS479 : Own B w0 w476 ([some (lch b1 104 [iv mem, iv pat, .slice ma f1.length mc, .slice ga f2.length gc])]) := by exact hO477.sub (List.singleton_sublist.2 (by simp))
        refine ⟨hS479, ?_⟩
        refine rhl_v 5 rfl (by kernel_rfl) rfl rfl rfl hS479 (fun _ hS => ov_iface rfl Try.underlying185 (by intro _ h; cases h) rfl) ?_
        refine rhl_any1 11 (by kernel_rfl) ?_
        refine rcl_op rfl rfl (ow_box _ rfl rfl rfl rfl rfl hO477) ?_
        rintro _ w480 ⟨bs1, rfl, hO481, hs482⟩
        have hS483 : Own B w0 w480 ([some (lch b1 104 [iv mem, iv pat, .slice ma f1.length mc, .slice ga f2.length gc])]) := by exact hO481.sub (List.singleton_sublist.2 (by simp))
        refine ⟨hS483, ?_⟩
        refine rhl_v 12 rfl (by kernel_rfl) rfl rfl rfl hS483 (fun _ hS => ov_iface rfl Try.underlying192 (by intro _ h; cases h) rfl) ?_
        refine rhl_v 20 rfl (by kernel_rfl) rfl rfl rfl hS483 (fun _ hS => ov_buildNodes rfl rfl rfl rfl) ?_
        refine rhl_any1 21 (by kernel_rfl) ?_
        refine rcl_op rfl rfl (ow_v rfl rfl (ov_nil rfl rfl)) ?_
        rintro _ _ ⟨rfl, hw484⟩
        replace hw484 := hw484.symm; subst hw484
        refine ⟨hS483, ?_⟩
        refine rhl_any1 22 (by kernel_rfl) ?_
        refine rcl_op rfl rfl (ow_v rfl rfl (ov_fieldS rfl Try.underlying184 rfl (fo := 5) rfl (by kernel_rfl) rfl)) ?_
        rintro _ _ ⟨rfl, hw485⟩
        replace hw485 := hw485.symm; subst hw485
        refine ⟨hS483, ?_⟩
        refine rhl_any1 23 (by kernel_rfl) ?_
        refine rcl_last rfl rfl (ow_storeP rfl rfl (by kernel_rfl) hO481 6 rfl rfl rfl rfl rfl rfl) ?_
        rintro _ w486 ⟨rfl, hO487, hs488⟩
        refine rhl_done (by kernel_rfl) ?_
        refine run_seq <| run_region <| rl_v rfl rfl rfl (ov_move rfl rfl) <| rl_v rfl rfl rfl (ov_assign rfl rfl) <| rl_v rfl rfl rfl (ov_assign rfl rfl) <| rl_nil <| run_ret Try.func50 (res2 Try.results50 rfl rfl) ?_
        exact .inr ⟨badn, ⟨bw, bc, bs1, bs2⟩, rfl, freshWorld hr1 hr2 (((((((hO487.perm (perm_front (k := 3) rfl)).perm (perm_front (k := 5) rfl)).perm (perm_front (k := 5) rfl)).perm (perm_front (k := 5) rfl)).perm (perm_front (k := 4) rfl)).perm (perm_front (k := 5) rfl)).perm (perm_front (k := 6) rfl))⟩
       ·refine rcl_op rfl rfl (ow_box _ rfl rfl rfl rfl rfl hO473) ?_
        rintro _ w489 ⟨bs1, rfl, hO490, hs491⟩
        have hS492 : Own B w0 w489 ([some (lch b1 104 [iv mem, iv pat, .slice ma f1.length mc, .slice ga f2.length gc])]) := by exact hO490.sub (List.singleton_sublist.2 (by simp))
        refine ⟨hS492, ?_⟩
        refine rhl_v 12 rfl (by kernel_rfl) rfl rfl rfl hS492 (fun _ hS => ov_iface rfl Try.underlying192 (by intro _ h; cases h) rfl) ?_
        refine rhl_any1 4 (by kernel_rfl) ?_
        refine rcl_op rfl rfl (ow_box _ rfl rfl rfl rfl rfl hO490) ?_
        rintro _ w493 ⟨bc, rfl, hO494, hs495⟩
        have hS496 : Own B w0 w493 ([some (lch b1 104 [iv mem, iv pat, .slice ma f1.length mc, .slice ga f2.length gc])]) := by exact hO494.sub (List.singleton_sublist.2 (by simp))
        refine ⟨hS496, ?_⟩
        refine rhl_v 5 rfl (by kernel_rfl) rfl rfl rfl hS496 (fun _ hS => ov_iface rfl Try.underlying185 (by intro _ h; cases h) rfl) ?_
        refine rhl_v 20 rfl (by kernel_rfl) rfl rfl rfl hS496 (fun _ hS => ov_buildNodes rfl rfl rfl rfl) ?_
        refine rhl_any1 21 (by kernel_rfl) ?_
        refine rcl_op rfl rfl (ow_v rfl rfl (ov_nil rfl rfl)) ?_
        rintro _ _ ⟨rfl, hw497⟩
        replace hw497 := hw497.symm; subst hw497
        refine ⟨hS496, ?_⟩
        refine rhl_any1 22 (by kernel_rfl) ?_
        refine rcl_op rfl rfl (ow_v rfl rfl (ov_fieldS rfl Try.underlying184 rfl (fo := 5) rfl (by kernel_rfl) rfl)) ?_
        rintro _ _ ⟨rfl, hw498⟩
        replace hw498 := hw498.symm; subst hw498
        refine ⟨hS496, ?_⟩
        refine rhl_any1 23 (by kernel_rfl) ?_
        refine rcl_last rfl rfl (ow_storeP rfl rfl (by kernel_rfl) hO494 6 rfl rfl rfl rfl rfl rfl) ?_
        rintro _ w499 ⟨rfl, hO500, hs501⟩
        refine rhl_done (by kernel_rfl) ?_
        refine run_seq <| run_region <| rl_v rfl rfl rfl (ov_move rfl rfl) <| rl_v rfl rfl rfl (ov_assign rfl rfl) <| rl_v rfl rfl rfl (ov_assign rfl rfl) <| rl_nil <| run_ret Try.func50 (res2 Try.results50 rfl rfl) ?_
        exact .inr ⟨badn, ⟨bw, bc, bs1, bs2⟩, rfl, freshWorld hr1 hr2 (((((((hO500.perm (perm_front (k := 3) rfl)).perm (perm_front (k := 5) rfl)).perm (perm_front (k := 5) rfl)).perm (perm_front (k := 5) rfl)).perm (perm_front (k := 5) rfl)).perm (perm_front (k := 5) rfl)).perm (perm_front (k := 6) rfl))⟩
    ·refine rcl_op rfl rfl (ow_box _ rfl rfl rfl rfl rfl hOa) ?_
     rintro _ w502 ⟨bs1, rfl, hO503, hs504⟩
     have hS505 : Own B w0 w502 ([some (lch b1 104 [iv mem, iv pat, .slice ma f1.length mc, .slice ga f2.length gc])]) := by exact hO503.sub (List.singleton_sublist.2 (by simp))
     refine ⟨hS505, ?_⟩
     refine rhl_v 12 rfl (by kernel_rfl) rfl rfl rfl hS505 (fun _ hS => ov_iface rfl Try.underlying192 (by intro _ h; cases h) rfl) ?_
     refine rhl_any2 2 16 (by kernel_rfl) ?_ ?_
     ·refine rcl_op rfl rfl (ow_makemap rfl rfl rfl hO503) ?_
      rintro _ w506 ⟨bm, rfl, hO507, hs508⟩
      have hS509 : Own B w0 w506 ([some (lch b1 104 [iv mem, iv pat, .slice ma f1.length mc, .slice ga f2.length gc])]) := by exact hO507.sub (List.singleton_sublist.2 (by simp))
      refine ⟨hS509, ?_⟩
      refine rhl_v 3 rfl (by kernel_rfl) rfl rfl rfl hS509 (fun _ hS => ov_buildL rfl lay_191 rfl (us := [_, _, _, _, _, _]) rfl) ?_
      refine rhl_any2 4 16 (by kernel_rfl) ?_ ?_
      ·refine rcl_op rfl rfl (ow_box _ rfl rfl rfl rfl rfl hO507) ?_
       rintro _ w510 ⟨bc, rfl, hO511, hs512⟩
       have hS513 : Own B w0 w510 ([some (lch b1 104 [iv mem, iv pat, .slice ma f1.length mc, .slice ga f2.length gc])]) := by exact hO511.sub (List.singleton_sublist.2 (by simp))
       refine ⟨hS513, ?_⟩
       refine rhl_v 5 rfl (by kernel_rfl) rfl rfl rfl hS513 (fun _ hS => ov_iface rfl Try.underlying185 (by intro _ h; cases h) rfl) ?_
       refine rhl_any1 16 (by kernel_rfl) ?_
       refine rcl_op rfl rfl (ow_call2 callable_72 rfl rfl rfl rfl rfl (cloneI_any ga f2.length gc B (gl f2) _ w0 w510 hO511 (fun B w0 w hO => h2 B w0 w (hO.sub (.cons _ (.cons _ (.cons _ (.cons _ (.cons _ (.cons _ (.refl _))))))))) hl2) (by intro e w' hp; obtain ⟨v2, c2, rfl, hr2, hOb⟩ := hp; exact ⟨_, rfl⟩)) ?_
       rintro _ w516 ⟨_, v514, he517, rfl, hp515⟩
       obtain ⟨v2, c2, rfl, hr2, hOb⟩ := hp515
       injection he517 with he517; subst he517
       have hS518 : Own B w0 w516 ([some (lch b1 104 [iv mem, iv pat, .slice ma f1.length mc, .slice ga f2.length gc])]) := by exact hOb.sub (List.singleton_sublist.2 (by simp))
       refine ⟨hS518, ?_⟩
       obtain ⟨a2, p2, rfl⟩ := hr2.val
       refine rhl_v 17 rfl (by kernel_rfl) rfl rfl rfl hS518 (fun _ hS => ov_buildL rfl lay_194 rfl (us := [_, _, _, _, _, _, _]) rfl) ?_
       refine rhl_any1 18 (by kernel_rfl) ?_
       refine rcl_op rfl rfl (ow_box _ rfl rfl rfl rfl rfl hOb) ?_
       rintro _ w519 ⟨bs2, rfl, hO520, hs521⟩
       have hS522 : Own B w0 w519 ([some (lch b1 104 [iv mem, iv pat, .slice ma f1.length mc, .slice ga f2.length gc])]) := by exact hO520.sub (List.singleton_sublist.2 (by simp))
       refine ⟨hS522, ?_⟩
       refine rhl_v 19 rfl (by kernel_rfl) rfl rfl rfl hS522 (fun _ hS => ov_iface rfl Try.underlying192 (by intro _ h; cases h) rfl) ?_
       refine rhl_v 20 rfl (by kernel_rfl) rfl rfl rfl hS522 (fun _ hS => ov_buildNodes rfl rfl rfl rfl) ?_
       refine rhl_any1 21 (by kernel_rfl) ?_
       refine rcl_op rfl rfl (ow_v rfl rfl (ov_nil rfl rfl)) ?_
       rintro _ _ ⟨rfl, hw523⟩
       replace hw523 := hw523.symm; subst hw523
       refine ⟨hS522, ?_⟩
       refine rhl_any1 22 (by kernel_rfl) ?_
       refine rcl_op rfl rfl (ow_v rfl rfl (ov_fieldS rfl Try.underlying184 rfl (fo := 5) rfl (by kernel_rfl) rfl)) ?_
       rintro _ _ ⟨rfl, hw524⟩
       replace hw524 := hw524.symm; subst hw524
       refine ⟨hS522, ?_⟩
       refine rhl_any1 23 (by kernel_rfl) ?_
       refine rcl_last rfl rfl (ow_storeP rfl rfl (by kernel_rfl) hO520 6 rfl rfl rfl rfl rfl rfl) ?_
       rintro _ w525 ⟨rfl, hO526, hs527⟩
       refine rhl_done (by kernel_rfl) ?_
       refine run_seq <| run_region <| rl_v rfl rfl rfl (ov_move rfl rfl) <| rl_v rfl rfl rfl (ov_assign rfl rfl) <| rl_v rfl rfl rfl (ov_assign rfl rfl) <| rl_nil <| run_ret Try.func50 (res2 Try.results50 rfl rfl) ?_
       exact .inr ⟨badn, ⟨bw, bc, bs1, bs2⟩, rfl, freshWorld hr1 hr2 (((((((hO526.perm (perm_front (k := 1) rfl)).perm (perm_front (k := 5) rfl)).perm (perm_front (k := 4) rfl)).perm (perm_front (k := 3) rfl)).perm (perm_front (k := 5) rfl)).perm (perm_front (k := 5) rfl)).perm (perm_front (k := 6) rfl))⟩
      ·refine rcl_op rfl rfl (ow_call2 callable_72 rfl rfl rfl rfl rfl (cloneI_any ga f2.length gc B (gl f2) _ w0 w506 hO507 (fun B w0 w hO => h2 B w0 w (hO.sub (.cons _ (.cons _ (.cons _ (.cons _ (.cons _ (.refl _)))))))) hl2) (by intro e w' hp; obtain ⟨v2, c2, rfl, hr2, hOb⟩ := hp; exact ⟨_, rfl⟩)) ?_
       rintro _ w530 ⟨_, v528, he531, rfl, hp529⟩
       obtain ⟨v2, c2, rfl, hr2, hOb⟩ := hp529
       injection he531 with he531; subst he531
       have hS532 : Own B w0 w530 ([some (lch b1 104 [iv mem, iv pat, .slice ma f1.length mc, .slice ga f2.length gc])]) := by exact hOb.sub (List.singleton_sublist.2 (by simp))
       refine ⟨hS532, ?_⟩
       obtain ⟨a2, p2, rfl⟩ := hr2.val
       refine rhl_v 17 rfl (by kernel_rfl) rfl rfl rfl hS532 (fun _ hS => ov_buildL rfl lay_194 rfl (us := [_, _, _, _, _, _, _]) rfl) ?_
       refine rhl_any2 4 18 (by kernel_rfl) ?_ ?_
       ·refine rcl_op rfl rfl (ow_box _ rfl rfl rfl rfl rfl hOb) ?_
        rintro _ w533 ⟨bc, rfl, hO534, hs535⟩
        have hS536 : Own B w0 w533 ([some (lch b1 104 [iv mem, iv pat, .slice ma f1.length mc, .slice ga f2.length gc])]) := by exact hO534.sub (List.singleton_sublist.2 (by simp))
        refine ⟨hS536, ?_⟩
        refine rhl_v 5 rfl (by kernel_rfl) rfl rfl rfl hS536 (fun _ hS => ov_iface rfl Try.underlying185 (by intro _ h; cases h) rfl) ?_
        refine rhl_any1 18 (by kernel_rfl) ?_
        refine rcl_op rfl rfl (ow_box _ rfl rfl rfl rfl rfl hO534) ?_
        rintro _ w537 ⟨bs2, rfl, hO538, hs539⟩
        have hS540 : Own B w0 w537 ([some (lch b1 104 [iv mem, iv pat, .slice ma f1.length mc, .slice ga f2.length gc])]) := by exact hO538.sub (List.singleton_sublist.2 (by simp))
        refine ⟨hS540, ?_⟩
        refine rhl_v 19 rfl (by kernel_rfl) rfl rfl rfl hS540 (fun _ hS => ov_iface rfl Try.underlying192 (by intro _ h; cases h) rfl) ?_
        refine rhl_v 20 rfl (by kernel_rfl) rfl rfl rfl hS540 (fun _ hS => ov_buildNodes rfl rfl rfl rfl) ?_
        refine rhl_any1 21 (by kernel_rfl) ?_
        refine rcl_op rfl rfl (ow_v rfl rfl (ov_nil rfl rfl)) ?_
        rintro _ _ ⟨rfl, hw541⟩
        replace hw541 := hw541.symm; subst hw541
        refine ⟨hS540, ?_⟩
        refine rhl_any1 22 (by kernel_rfl) ?_
        refine rcl_op rfl rfl (ow_v rfl rfl (ov_fieldS rfl Try.underlying184 rfl (fo := 5) rfl (by kernel_rfl) rfl)) ?_
        rintro _ _ ⟨rfl, hw542⟩
        replace hw542 := hw542.symm; subst hw542
        refine ⟨hS540, ?_⟩
        refine rhl_any1 23 (by kernel_rfl) ?_
        refine rcl_last rfl rfl (ow_storeP rfl rfl (by kernel_rfl) hO538 6 rfl rfl rfl rfl rfl rfl) ?_
        rintro _ w543 ⟨rfl, hO544, hs545⟩
        refine rhl_done (by kernel_rfl) ?_
        refine run_seq <| run_region <| rl_v rfl rfl rfl (ov_move rfl rfl) <| rl_v rfl rfl rfl (ov_assign rfl rfl) <| rl_v rfl rfl rfl (ov_assign rfl rfl) <| rl_nil <| run_ret Try.func50 (res2 Try.results50 rfl rfl) ?_
        exact .inr ⟨badn, ⟨bw, bc, bs1, bs2⟩, rfl, freshWorld hr1 hr2 (((((((hO544.perm (perm_front (k := 2) rfl)).perm (perm_front (k := 5) rfl)).perm (perm_front (k := 4) rfl)).perm (perm_front (k := 3) rfl)).perm (perm_front (k := 5) rfl)).perm (perm_front (k := 5) rfl)).perm (perm_front (k := 6) rfl))⟩
       ·refine rcl_op rfl rfl (ow_box _ rfl rfl rfl rfl rfl hOb) ?_
        rintro _ w546 ⟨bs2, rfl, hO547, hs548⟩
        have hS549 : Own B w0 w546 ([some (lch b1 104 [iv mem, iv pat, .slice ma f1.length mc, .slice ga f2.length gc])]) := by exact hO547.sub (List.singleton_sublist.2 (by simp))
        refine ⟨hS549, ?_⟩
        refine rhl_v 19 rfl (by kernel_rfl) rfl rfl rfl hS549 (fun _ hS => ov_iface rfl Try.underlying192 (by intro _ h; cases h) rfl) ?_
        refine rhl_any1 4 (by kernel_rfl) ?_
        refine rcl_op rfl rfl (ow_box _ rfl rfl rfl rfl rfl hO547) ?_
        rintro _ w550 ⟨bc, rfl, hO551, hs552⟩
        have hS553 : Own B w0 w550 ([some (lch b1 104 [iv mem, iv pat, .slice ma f1.length mc, .slice ga f2.length gc])]) := by exact hO551.sub (List.singleton_sublist.2 (by simp))
        refine ⟨hS553, ?_⟩
        refine rhl_v 5 rfl (by kernel_rfl) rfl rfl rfl hS553 (fun _ hS => ov_iface rfl Try.underlying185 (by intro _ h; cases h) rfl) ?_
        refine rhl_v 20 rfl (by kernel_rfl) rfl rfl rfl hS553 (fun _ hS => ov_buildNodes rfl rfl rfl rfl) ?_
        refine rhl_any1 21 (by kernel_rfl) ?_
        refine rcl_op rfl rfl (ow_v rfl rfl (ov_nil rfl rfl)) ?_
        rintro _ _ ⟨rfl, hw554⟩
        replace hw554 := hw554.symm; subst hw554
        refine ⟨hS553, ?_⟩
        refine rhl_any1 22 (by kernel_rfl) ?_
        refine rcl_op rfl rfl (ow_v rfl rfl (ov_fieldS rfl Try.underlying184 rfl (fo := 5) rfl (by kernel_rfl) rfl)) ?_
        rintro _ _ ⟨rfl, hw555⟩
        replace hw555 := hw555.symm; subst hw555
        refine ⟨hS553, ?_⟩
        refine rhl_any1 23 (by kernel_rfl) ?_
        refine rcl_last rfl rfl (ow_storeP rfl rfl (by kernel_rfl) hO551 6 rfl rfl rfl rfl rfl rfl) ?_
        rintro _ w556 ⟨rfl, hO557, hs558⟩
        refine rhl_done (by kernel_rfl) ?_
        refine run_seq <| run_region <| rl_v rfl rfl rfl (ov_move rfl rfl) <| rl_v rfl rfl rfl (ov_assign rfl rfl) <| rl_v rfl rfl rfl (ov_assign rfl rfl) <| rl_nil <| run_ret Try.func50 (res2 Try.results50 rfl rfl) ?_
        exact .inr ⟨badn, ⟨bw, bc, bs1, bs2⟩, rfl, freshWorld hr1 hr2 (((((((hO557.perm (perm_front (k := 2) rfl)).perm (perm_front (k := 5) rfl)).perm (perm_front (k := 4) rfl)).perm (perm_front (k := 4) rfl)).perm (perm_front (k := 5) rfl)).perm (perm_front (k := 5) rfl)).perm (perm_front (k := 6) rfl))⟩
     ·refine rcl_op rfl rfl (ow_call2 callable_72 rfl rfl rfl rfl rfl (cloneI_any ga f2.length gc B (gl f2) _ w0 w502 hO503 (fun B w0 w hO => h2 B w0 w (hO.sub (.cons _ (.cons _ (.cons _ (.cons _ (.refl _))))))) hl2) (by intro e w' hp; obtain ⟨v2, c2, rfl, hr2, hOb⟩ := hp; exact ⟨_, rfl⟩)) ?_
      rintro _ w561 ⟨_, v559, he562, rfl, hp560⟩
      obtain ⟨v2, c2, rfl, hr2, hOb⟩ := hp560
      injection he562 with he562; subst he562
      have hS563 : Own B w0 w561 ([some (lch b1 104 [iv mem, iv pat, .slice ma f1.length mc, .slice ga f2.length gc])]) := by exact hOb.sub (List.singleton_sublist.2 (by simp))
      refine ⟨hS563, ?_⟩
      obtain ⟨a2, p2, rfl⟩ := hr2.val
      refine rhl_v 17 rfl (by kernel_rfl) rfl rfl rfl hS563 (fun _ hS => ov_buildL rfl lay_194 rfl (us := [_, _, _, _, _, _, _]) rfl) ?_
      refine rhl_any2 2 18 (by kernel_rfl) ?_ ?_
      ·refine rcl_op rfl rfl (ow_makemap rfl rfl rfl hOb) ?_
       rintro _ w564 ⟨bm, rfl, hO565, hs566⟩
       have hS567 : Own B w0 w564 ([some (lch b1 104 [iv mem, iv pat, .slice ma f1.length mc, .slice ga f2.length gc])]) := by exact hO565.sub (List.singleton_sublist.2 (by simp))
       refine ⟨hS567, ?_⟩
       refine rhl_v 3 rfl (by kernel_rfl) rfl rfl rfl hS567 (fun _ hS => ov_buildL rfl lay_191 rfl (us := [_, _, _, _, _, _]) rfl) ?_
       refine rhl_any2 4 18 (by kernel_rfl) ?_ ?_
       ·refine rcl_op rfl rfl (ow_box _ rfl rfl rfl rfl rfl hO565) ?_
        rintro _ w568 ⟨bc, rfl, hO569, hs570⟩
        have hS571 : Own B w0 w568 ([some (lch b1 104 [iv mem, iv pat, .slice ma f1.length mc, .slice ga f2.length gc])]) := by exact hO569.sub (List.singleton_sublist.2 (by simp))
        refine ⟨hS571, ?_⟩
        refine rhl_v 5 rfl (by kernel_rfl) rfl rfl rfl hS571 (fun _ hS => ov_iface rfl Try.underlying185 (by intro _ h; cases h) rfl) ?_
        refine rhl_any1 18 (by kernel_rfl) ?_
        refine rcl_op rfl rfl (ow_box _ rfl rfl rfl rfl rfl hO569) ?_
        rintro _ w572 ⟨bs2, rfl, hO573, hs574⟩
        have hS575 : Own B w0 w572 ([some (lch b1 104 [iv mem, iv pat, .slice ma f1.length mc, .slice ga f2.length gc])]) := by exact hO573.sub (List.singleton_sublist.2 (by simp))
        refine ⟨hS575, ?_⟩
        refine rhl_v 19 rfl (by kernel_rfl) rfl rfl rfl hS575 (fun _ hS => ov_iface rfl Try.underlying192 (by intro _ h; cases h) rfl) ?_
        refine rhl_v 20 rfl (by kernel_rfl) rfl rfl rfl hS575 (fun _ hS => ov_buildNodes rfl rfl rfl rfl) ?_
        refine rhl_any1 21 (by kernel_rfl) ?_
        refine rcl_op rfl rfl (ow_v rfl rfl (ov_nil rfl rfl)) ?_
        rintro _ _ ⟨rfl, hw576⟩
        replace hw576 := hw576.symm; subst hw576
        refine ⟨hS575, ?_⟩
        refine rhl_any1 22 (by kernel_rfl) ?_
        refine rcl_op rfl rfl (ow_v rfl rfl (ov_fieldS rfl Try.underlying184 rfl (fo := 5) rfl (by kernel_rfl) rfl)) ?_
        rintro _ _ ⟨rfl, hw577⟩
        replace hw577 := hw577.symm; subst hw577
        refine ⟨hS575, ?_⟩
        refine rhl_any1 23 (by kernel_rfl) ?_
        refine rcl_last rfl rfl (ow_storeP rfl rfl (by kernel_rfl) hO573 6 rfl rfl rfl rfl rfl rfl) ?_
        rintro _ w578 ⟨rfl, hO579, hs580⟩
        refine rhl_done (by kernel_rfl) ?_
        refine run_seq <| run_region <| rl_v rfl rfl rfl (ov_move rfl rfl) <| rl_v rfl rfl rfl (ov_assign rfl rfl) <| rl_v rfl rfl rfl (ov_assign rfl rfl) <| rl_nil <| run_ret Try.func50 (res2 Try.results50 rfl rfl) ?_
        exact .inr ⟨badn, ⟨bw, bc, bs1, bs2⟩, rfl, freshWorld hr1 hr2 (((((((hO579.perm (perm_front (k := 3) rfl)).perm (perm_front (k := 5) rfl)).perm (perm_front (k := 4) rfl)).perm (perm_front (k := 3) rfl)).perm (perm_front (k := 5) rfl)).perm (perm_front (k := 5) rfl)).perm (perm_front (k := 6) rfl))⟩
       ·refine rcl_op rfl rfl (ow_box _ rfl rfl rfl rfl rfl hO565) ?_
        rintro _ w581 ⟨bs2, rfl, hO582, hs583⟩
        have hS584 : Own B w0 w581 ([some (lch b1 104 [iv mem, iv pat, .slice ma f1.length mc, .slice ga f2.length gc])]) := by exact hO582.sub (List.singleton_sublist.2 (by simp))
        refine ⟨hS584, ?_⟩
        refine rhl_v 19 rfl (by kernel_rfl) rfl rfl rfl hS584 (fun _ hS => ov_iface rfl Try.underlying192 (by intro _ h; cases h) rfl) ?_
        refine rhl_any1 4 (by kernel_rfl) ?_
        refine rcl_op rfl rfl (ow_box _ rfl rfl rfl rfl rfl hO582) ?_
        rintro _ w585 ⟨bc, rfl, hO586, hs587⟩
        have hS588 : Own B w0 w585 ([some (lch b1 104 [iv mem, iv pat, .slice ma f1.length mc, .slice ga f2.length gc])]) := by exact hO586.sub (List.singleton_sublist.2 (by simp))
        refine ⟨hS588, ?_⟩
        refine rhl_v 5 rfl (by kernel_rfl) rfl rfl rfl hS588 (fun _ hS => ov_iface rfl Try.underlying185 (by intro _ h; cases h) rfl) ?_
        refine rhl_v 20 rfl (by kernel_rfl) rfl rfl rfl hS588 (fun _ hS => ov_buildNodes rfl rfl rfl rfl) ?_
        refine rhl_any1 21 (by kernel_rfl) ?_
        refine rcl_op rfl rfl (ow_v rfl rfl (ov_nil rfl rfl)) ?_
        rintro _ _ ⟨rfl, hw589⟩
        replace hw589 := hw589.symm; subst hw589
        refine ⟨hS588, ?_⟩
        refine rhl_any1 22 (by kernel_rfl) ?_
        refine rcl_op rfl rfl (ow_v rfl rfl (ov_fieldS rfl Try.underlying184 rfl (fo := 5) rfl (by kernel_rfl) rfl)) ?_
        rintro _ _ ⟨rfl, hw590⟩
        replace hw590 := hw590.symm; subst hw590
        refine ⟨hS588, ?_⟩
        refine rhl_any1 23 (by kernel_rfl) ?_
        refine rcl_last rfl rfl (ow_storeP rfl rfl (by kernel_rfl) hO586 6 rfl rfl rfl rfl rfl rfl) ?_
        rintro _ w591 ⟨rfl, hO592, hs593⟩
        refine rhl_done (by kernel_rfl) ?_
        refine run_seq <| run_region <| rl_v rfl rfl rfl (ov_move rfl rfl) <| rl_v rfl rfl rfl (ov_assign rfl rfl) <| rl_v rfl rfl rfl (ov_assign rfl rfl) <| rl_nil <| run_ret Try.func50 (res2 Try.results50 rfl rfl) ?_
        exact .inr ⟨badn, ⟨bw, bc, bs1, bs2⟩, rfl, freshWorld hr1 hr2 (((((((hO592.perm (perm_front (k := 3) rfl)).perm (perm_front (k := 5) rfl)).perm (perm_front (k := 4) rfl)).perm (perm_front (k := 4) rfl)).perm (perm_front (k := 5) rfl)).perm (perm_front (k := 5) rfl)).perm (perm_front (k := 6) rfl))⟩
      ·refine rcl_op rfl rfl (ow_box _ rfl rfl rfl rfl rfl hOb) ?_
       rintro _ w594 ⟨bs2, rfl, hO595, hs596⟩
       have hS597 : Own B w0 w594 ([some (lch b1 104 [iv mem, iv pat, .slice ma f1.length mc, .slice ga f2.length gc])]) := by exact hO595.sub (List.singleton_sublist.2 (by simp))
       refine ⟨hS597, ?_⟩
       refine rhl_v 19 rfl (by kernel_rfl) rfl rfl rfl hS597 (fun _ hS => ov_iface rfl Try.underlying192 (by intro _ h; cases h) rfl) ?_
       refine rhl_any1 2 (by kernel_rfl) ?_
       refine rcl_op rfl rfl (ow_makemap rfl rfl rfl hO595) ?_
       rintro _ w598 ⟨bm, rfl, hO599, hs600⟩
       have hS601 : Own B w0 w598 ([some (lch b1 104 [iv mem, iv pat, .slice ma f1.length mc, .slice ga f2.length gc])]) := by exact hO599.sub (List.singleton_sublist.2 (by simp))
       refine ⟨hS601, ?_⟩
       refine rhl_v 3 rfl (by kernel_rfl) rfl rfl rfl hS601 (fun _ hS => ov_buildL rfl lay_191 rfl (us := [_, _, _, _, _, _]) rfl) ?_
       refine rhl_any1 4 (by kernel_rfl) ?_
       refine rcl_op rfl rfl (ow_box _ rfl rfl rfl rfl rfl hO599) ?_
       rintro _ w602 ⟨bc, rfl, hO603, hs604⟩
       have hS605 : Own B w0 w602 ([some (lch b1 104 [iv mem, iv pat, .slice ma f1.length mc, .slice ga f2.length gc])]) := by exact hO603.sub (List.singleton_sublist.2 (by simp))
       refine ⟨hS605, ?_⟩
       refine rhl_v 5 rfl (by kernel_rfl) rfl rfl rfl hS605 (fun _ hS => ov_iface rfl Try.underlying185 (by intro _ h; cases h) rfl) ?_
       refine rhl_v 20 rfl (by kernel_rfl) rfl rfl rfl hS605 (fun _ hS => ov_buildNodes rfl rfl rfl rfl) ?_
       refine rhl_any1 21 (by kernel_rfl) ?_
       refine rcl_op rfl rfl (ow_v rfl rfl (ov_nil rfl rfl)) ?_
       rintro _ _ ⟨rfl, hw606⟩
       replace hw606 := hw606.symm; subst hw606
       refine ⟨hS605, ?_⟩
       refine rhl_any1 22 (by kernel_rfl) ?_
       refine rcl_op rfl rfl (ow_v rfl rfl (ov_fieldS rfl Try.underlying184 rfl (fo := 5) rfl (by kernel_rfl) rfl)) ?_
       rintro _ _ ⟨rfl, hw607⟩
       replace hw607 := hw607.symm; subst hw607
       refine ⟨hS605, ?_⟩
       refine rhl_any1 23 (by kernel_rfl) ?_
       refine rcl_last rfl rfl (ow_storeP rfl rfl (by kernel_rfl) hO603 6 rfl rfl rfl rfl rfl rfl) ?_
       rintro _ w608 ⟨rfl, hO609, hs610⟩
       refine rhl_done (by kernel_rfl) ?_
       refine run_seq <| run_region <| rl_v rfl rfl rfl (ov_move rfl rfl) <| rl_v rfl rfl rfl (ov_assign rfl rfl) <| rl_v rfl rfl rfl (ov_assign rfl rfl) <| rl_nil <| run_ret Try.func50 (res2 Try.results50 rfl rfl) ?_
       exact .inr ⟨badn, ⟨bw, bc, bs1, bs2⟩, rfl, freshWorld hr1 hr2 (((((((hO609.perm (perm_front (k := 3) rfl)).perm (perm_front (k := 5) rfl)).perm (perm_front (k := 3) rfl)).perm (perm_front (k := 4) rfl)).perm (perm_front (k := 5) rfl)).perm (perm_front (k := 5) rfl)).perm (perm_front (k := 6) rfl))⟩
    ·refine rcl_op rfl rfl (ow_call2 callable_72 rfl rfl rfl rfl rfl (cloneI_any ga f2.length gc B (gl f2) _ w0 w294 hOa (fun B w0 w hO => h2 B w0 w (hO.sub (.cons _ (.cons _ (.cons _ (.refl _)))))) hl2) (by intro e w' hp; obtain ⟨v2, c2, rfl, hr2, hOb⟩ := hp; exact ⟨_, rfl⟩)) ?_
     rintro _ w613 ⟨_, v611, he614, rfl, hp612⟩
     obtain ⟨v2, c2, rfl, hr2, hOb⟩ := hp612
     injection he614 with he614; subst he614
     have hS615 : Own B w0 w613 ([some (lch b1 104 [iv mem, iv pat, .slice ma f1.length mc, .slice ga f2.length gc])]) := by exact hOb.sub (List.singleton_sublist.2 (by simp))
     refine ⟨hS615, ?_⟩
     obtain ⟨a2, p2, rfl⟩ := hr2.val
     refine rhl_v 17 rfl (by kernel_rfl) rfl rfl rfl hS615 (fun _ hS => ov_buildL rfl lay_194 rfl (us := [_, _, _, _, _, _, _]) rfl) ?_
     refine rhl_any3 2 11 18 (by kernel_rfl) ?_ ?_ ?_
     ·refine rcl_op rfl rfl (ow_makemap rfl rfl rfl hOb) ?_
      rintro _ w616 ⟨bm, rfl, hO617, hs618⟩
      have hS619 : Own B w0 w616 ([some (lch b1 104 [iv mem, iv pat, .slice ma f1.length mc, .slice ga f2.length gc])]) := by exact hO617.sub (List.singleton_sublist.2 (by simp))
      refine ⟨hS619, ?_⟩
      refine rhl_v 3 rfl (by kernel_rfl) rfl rfl rfl hS619 (fun _ hS => ov_buildL rfl lay_191 rfl (us := [_, _, _, _, _, _]) rfl) ?_
      refine rhl_any3 4 11 18 (by kernel_rfl) ?_ ?_ ?_
      ·refine rcl_op rfl rfl (ow_box _ rfl rfl rfl rfl rfl hO617) ?_
       rintro _ w620 ⟨bc, rfl, hO621, hs622⟩
       have hS623 : Own B w0 w620 ([some (lch b1 104 [iv mem, iv pat, .slice ma f1.length mc, .slice ga f2.length gc])]) := by exact hO621.sub (List.singleton_sublist.2 (by simp))
       refine ⟨hS623, ?_⟩
       refine rhl_v 5 rfl (by kernel_rfl) rfl rfl rfl hS623 (fun _ hS => ov_iface rfl Try.underlying185 (by intro _ h; cases h) rfl) ?_
       refine rhl_any2 11 18 (by kernel_rfl) ?_ ?_
       ·refine rcl_op rfl rfl (ow_box _ rfl rfl rfl rfl rfl hO621) ?_
        rintro _ w624 ⟨bs1, rfl, hO625, hs626⟩
        have hS627 : Own B w0 w624 ([some (lch b1 104 [iv mem, iv pat, .slice ma f1.length mc, .slice ga f2.length gc])]) := by exact hO625.sub (List.singleton_sublist.2 (by simp))
        refine ⟨hS627, ?_⟩
        refine rhl_v 12 rfl (by kernel_rfl) rfl rfl rfl hS627 (fun _ hS => ov_iface rfl Try.underlying192 (by intro _ h; cases h) rfl) ?_
        refine rhl_any1 18 (by kernel_rfl) ?_
        refine rcl_op rfl rfl (ow_box _ rfl rfl rfl rfl rfl hO625) ?_
        rintro _ w628 ⟨bs2, rfl, hO629, hs630⟩
        have hS631 : Own B w0 w628 ([some (lch b1 104 [iv mem, iv pat, .slice ma f1.length mc, .slice ga f2.length gc])]) := by exact hO629.sub (List.singleton_sublist.2 (by simp))
        refine ⟨hS631, ?_⟩
        refine rhl_v 19 rfl (by kernel_rfl) rfl rfl rfl hS631 (fun _ hS => ov_iface rfl Try.underlying192 (by intro _ h; cases h) rfl) ?_
        refine rhl_v 20 rfl (by kernel_rfl) rfl rfl rfl hS631 (fun _ hS => ov_buildNodes rfl rfl rfl rfl) ?_
        refine rhl_any1 21 (by kernel_rfl) ?_
        refine rcl_op rfl rfl (ow_v rfl rfl (ov_nil rfl rfl)) ?_
        rintro _ _ ⟨rfl, hw632⟩
        replace hw632 := hw632.symm; subst hw632
        refine ⟨hS631, ?_⟩
        refine rhl_any1 22 (by kernel_rfl) ?_
        refine rcl_op rfl rfl (ow_v rfl rfl (ov_fieldS rfl Try.underlying184 rfl (fo := 5) rfl (by kernel_rfl) rfl)) ?_
        rintro _ _ ⟨rfl, hw633⟩
        replace hw633 := hw633.symm; subst hw633
        refine ⟨hS631, ?_⟩
        refine rhl_any1 23 (by kernel_rfl) ?_
        refine rcl_last rfl rfl (ow_storeP rfl rfl (by kernel_rfl) hO629 6 rfl rfl rfl rfl rfl rfl) ?_
        rintro _ w634 ⟨rfl, hO635, hs636⟩
        refine rhl_done (by kernel_rfl) ?_
        refine run_seq <| run_region <| rl_v rfl rfl rfl (ov_move rfl rfl) <| rl_v rfl rfl rfl (ov_assign rfl rfl) <| rl_v rfl rfl rfl (ov_assign rfl rfl) <| rl_nil <| run_ret Try.func50 (res2 Try.results50 rfl rfl) ?_
        exact .inr ⟨badn, ⟨bw, bc, bs1, bs2⟩, rfl, freshWorld hr1 hr2 (((((((hO635.perm (perm_front (k := 4) rfl)).perm (perm_front (k := 5) rfl)).perm (perm_front (k := 5) rfl)).perm (perm_front (k := 3) rfl)).perm (perm_front (k := 4) rfl)).perm (perm_front (k := 5) rfl)).perm (perm_front (k := 6) rfl))⟩
       ·refine rcl_op rfl rfl (ow_box _ rfl rfl rfl rfl rfl hO621) ?_
        rintro _ w637 ⟨bs2, rfl, hO638, hs639⟩
        have hS640 : Own B w0 w637 ([some (lch b1 104 [iv mem, iv pat, .slice ma f1.length mc, .slice ga f2.length gc])]) := by exact hO638.sub (List.singleton_sublist.2 (by simp))
        refine ⟨hS640, ?_⟩
        refine rhl_v 19 rfl (by kernel_rfl) rfl rfl rfl hS640 (fun _ hS => ov_iface rfl Try.underlying192 (by intro _ h; cases h) rfl) ?_
        refine rhl_any1 11 (by kernel_rfl) ?_
        refine rcl_op rfl rfl (ow_box _ rfl rfl rfl rfl rfl hO638) ?_
        rintro _ w641 ⟨bs1, rfl, hO642, hs643⟩
        have hS644 : Own B w0 w641 ([some (lch b1 104 [iv mem, iv pat, .slice ma f1.length mc, .slice ga f2.length gc])]) := by exact hO642.sub (List.singleton_sublist.2 (by simp))
        refine ⟨hS644, ?_⟩
        refine rhl_v 12 rfl (by kernel_rfl) rfl rfl rfl hS644 (fun _ hS => ov_iface rfl Try.underlying192 (by intro _ h; cases h) rfl) ?_
        refine rhl_v 20 rfl (by kernel_rfl) rfl rfl rfl hS644 (fun _ hS => ov_buildNodes rfl rfl rfl rfl) ?_
        refine rhl_any1 21 (by kernel_rfl) ?_
        refine rcl_op rfl rfl (ow_v rfl rfl (ov_nil rfl rfl)) ?_
        rintro _ _ ⟨rfl, hw645⟩
        replace hw645 := hw645.symm; subst hw645
        refine ⟨hS644, ?_⟩
        refine rhl_any1 22 (by kernel_rfl) ?_
        refine rcl_op rfl rfl (ow_v rfl rfl (ov_fieldS rfl Try.underlying184 rfl (fo := 5) rfl (by kernel_rfl) rfl)) ?_
        rintro _ _ ⟨rfl, hw646⟩
        replace hw646 := hw646.symm; subst hw646
        refine ⟨hS644, ?_⟩
        refine rhl_any1 23 (by kernel_rfl) ?_
        refine rcl_last rfl rfl (ow_storeP rfl rfl (by kernel_rfl) hO642 6 rfl rfl rfl rfl rfl rfl) ?_
        rintro _ w647 ⟨rfl, hO648, hs649⟩
        refine rhl_done (by kernel_rfl) ?_
        refine run_seq <| run_region <| rl_v rfl rfl rfl (ov_move rfl rfl) <| rl_v rfl rfl rfl (ov_assign rfl rfl) <| rl_v rfl rfl rfl (ov_assign rfl rfl) <| rl_nil <| run_ret Try.func50 (res2 Try.results50 rfl rfl) ?_
        exact .inr ⟨badn, ⟨bw, bc, bs1, bs2⟩, rfl, freshWorld hr1 hr2 (((((((hO648.perm (perm_front (k := 4) rfl)).perm (perm_front (k := 5) rfl)).perm (perm_front (k := 5) rfl)).perm (perm_front (k := 4) rfl)).perm (perm_front (k := 4) rfl)).perm (perm_front (k := 5) rfl)).perm (perm_front (k := 6) rfl))⟩
      ·refine rcl_op rfl rfl (ow_box _ rfl rfl rfl rfl rfl hO617) ?_
       rintro _ w650 ⟨bs1, rfl, hO651, hs652⟩
       have hS653 : Own B w0 w650 ([some (lch b1 104 [iv mem, iv pat, .slice ma f1.length mc, .slice ga f2.length gc])]) := by exact hO651.sub (List.singleton_sublist.2 (by simp))
       refine ⟨hS653, ?_⟩
       refine rhl_v 12 rfl (by kernel_rfl) rfl rfl rfl hS653 (fun _ hS => ov_iface rfl Try.underlying192 (by intro _ h; cases h) rfl) ?_
       refine rhl_any2 4 18 (by kernel_rfl) ?_ ?_
       ·refine rcl_op rfl rfl (ow_box _ rfl rfl rfl rfl rfl hO651) ?_
        rintro _ w654 ⟨bc, rfl, hO655, hs656⟩
        have hS657 : Own B w0 w654 ([some (lch b1 104 [iv mem, iv pat, .slice ma f1.length mc, .slice ga f2.length gc])]) := by exact hO655.sub (List.singleton_sublist.2 (by simp))
        refine ⟨hS657, ?_⟩
        refine rhl_v 5 rfl (by kernel_rfl) rfl rfl rfl hS657 (fun _ hS => ov_iface rfl Try.underlying185 (by intro _ h; cases h) rfl) ?_
        refine rhl_any1 18 (by kernel_rfl) ?_
        refine rcl_op rfl rfl (ow_box _ rfl rfl rfl rfl rfl hO655) ?_
        rintro _ w658 ⟨bs2, rfl, hO659, hs660⟩
        have hS661 : Own B w0 w658 ([some (lch b1 104 [iv mem, iv pat, .slice ma f1.length mc, .slice ga f2.length gc])]) := by exact hO659.sub (List.singleton_sublist.2 (by simp))
        refine ⟨hS661, ?_⟩
        refine rhl_v 19 rfl (by kernel_rfl) rfl rfl rfl hS661 (fun _ hS => ov_iface rfl Try.underlying192 (by intro _ h; cases h) rfl) ?_
        refine rhl_v 20 rfl (by kernel_rfl) rfl rfl rfl hS661 (fun _ hS => ov_buildNodes rfl rfl rfl rfl) ?_
        refine rhl_any1 21 (by kernel_rfl) ?_
        refine rcl_op rfl rfl (ow_v rfl rfl (ov_nil rfl rfl)) ?_
        rintro _ _ ⟨rfl, hw662⟩
        replace hw662 := hw662.symm; subst hw662
        refine ⟨hS661, ?_⟩
        refine rhl_any1 22 (by kernel_rfl) ?_
        refine rcl_op rfl rfl (ow_v rfl rfl (ov_fieldS rfl Try.underlying184 rfl (fo := 5) rfl (by kernel_rfl) rfl)) ?_
        rintro _ _ ⟨rfl, hw663⟩
        replace hw663 := hw663.symm; subst hw663
        refine ⟨hS661, ?_⟩
        refine rhl_any1 23 (by kernel_rfl) ?_
        refine rcl_last rfl rfl (ow_storeP rfl rfl (by kernel_rfl) hO659 6 rfl rfl rfl rfl rfl rfl) ?_
        rintro _ w664 ⟨rfl, hO665, hs666⟩
        refine rhl_done (by kernel_rfl) ?_
        refine run_seq <| run_region <| rl_v rfl rfl rfl (ov_move rfl rfl) <| rl_v rfl rfl rfl (ov_assign rfl rfl) <| rl_v rfl rfl rfl (ov_assign rfl rfl) <| rl_nil <| run_ret Try.func50 (res2 Try.results50 rfl rfl) ?_
        exact .inr ⟨badn, ⟨bw, bc, bs1, bs2⟩, rfl, freshWorld hr1 hr2 (((((((hO665.perm (perm_front (k := 4) rfl)).perm (perm_front (k := 5) rfl)).perm (perm_front (k := 5) rfl)).perm (perm_front (k := 3) rfl)).perm (perm_front (k := 5) rfl)).perm (perm_front (k := 5) rfl)).perm (perm_front (k := 6) rfl))⟩
       ·refine rcl_op rfl rfl (ow_box _ rfl rfl rfl rfl rfl hO651) ?_
        rintro _ w667 ⟨bs2, rfl, hO668, hs669⟩
        have hS670 : Own B w0 w667 ([some (lch b1 104 [iv mem, iv pat, .slice ma f1.length mc, .slice ga f2.length gc])]) := by exact hO668.sub (List.singleton_sublist.2 (by simp))
        refine ⟨hS670, ?_⟩
        refine rhl_v 19 rfl (by kernel_rfl) rfl rfl rfl hS670 (fun _ hS => ov_iface rfl Try.underlying192 (by intro _ h; cases h) rfl) ?_
        refine rhl_any1 4 (by kernel_rfl) ?_
        refine rcl_op rfl rfl (ow_box _ rfl rfl rfl rfl rfl hO668) ?_
        rintro _ w671 ⟨bc, rfl, hO672, hs673⟩
        have hS674 : Own B w0 w671 ([some (lch b1 104 [iv mem, iv pat, .slice ma f1.length mc, .slice ga f2.length gc])]) := by exact hO672.sub (List.singleton_sublist.2 (by simp))
        refine ⟨hS674, ?_⟩
        refine rhl_v 5 rfl (by kernel_rfl) rfl rfl rfl hS674 (fun _ hS => ov_iface rfl Try.underlying185 (by intro _ h; cases h) rfl) ?_
        refine rhl_v 20 rfl (by kernel_rfl) rfl rfl rfl hS674 (fun _ hS => ov_buildNodes rfl rfl rfl rfl) ?_
        refine rhl_any1 21 (by kernel_rfl) ?_
        refine rcl_op rfl rfl (ow_v rfl rfl (ov_nil rfl rfl)) ?_
        rintro _ _ ⟨rfl, hw675⟩
        replace hw675 := hw675.symm; subst hw675
        refine ⟨hS674, ?_⟩
        refine rhl_any1 22 (by kernel_rfl) ?_
        refine rcl_op rfl rfl (ow_v rfl rfl (ov_fieldS rfl Try.underlying184 rfl (fo := 5) rfl (by kernel_rfl) rfl)) ?_
        rintro _ _ ⟨rfl, hw676⟩
        replace hw676 := hw676.symm; subst hw676
        refine ⟨hS674, ?_⟩
        refine rhl_any1 23 (by kernel_rfl) ?_
        refine rcl_last rfl rfl (ow_storeP rfl rfl (by kernel_rfl) hO672 6 rfl rfl rfl rfl rfl rfl) ?_
        rintro _ w677 ⟨rfl, hO678, hs679⟩
        refine rhl_done (by kernel_rfl) ?_
        refine run_seq <| run_region <| rl_v rfl rfl rfl (ov_move rfl rfl) <| rl_v rfl rfl rfl (ov_assign rfl rfl) <| rl_v rfl rfl rfl (ov_assign rfl rfl) <| rl_nil <| run_ret Try.func50 (res2 Try.results50 rfl rfl) ?_
        exact .inr ⟨badn, ⟨bw, bc, bs1, bs2⟩, rfl, freshWorld hr1 hr2 (((((((hO678.perm (perm_front (k := 4) rfl)).perm (perm_front (k := 5) rfl)).perm (perm_front (k := 5) rfl)).perm (perm_front (k := 4) rfl)).perm (perm_front (k := 5) rfl)).perm (perm_front (k := 5) rfl)).perm (perm_front (k := 6) rfl))⟩
      ·refine rcl_op rfl rfl (ow_box _ rfl rfl rfl rfl rfl hO617) ?_
       rintro _ w680 ⟨bs2, rfl, hO681, hs682⟩
       have hS683 : Own B w0 w680 ([some (lch b1 104 [iv mem, iv pat, .slice ma f1.length mc, .slice ga f2.length gc])]) := by exact hO681.sub (List.singleton_sublist.2 (by simp))
       refine ⟨hS683, ?_⟩
       refine rhl_v 19 rfl (by kernel_rfl) rfl rfl rfl hS683 (fun _ hS => ov_iface rfl Try.underlying192 (by intro _ h; cases h) rfl) ?_
       refine rhl_any2 4 11 (by kernel_rfl) ?_ ?_
       ·refine rcl_op rfl rfl (ow_box _ rfl rfl rfl rfl rfl hO681) ?_
        rintro _ w684 ⟨bc, rfl, hO685, hs686⟩
        have hS687 : Own B w0 w684 ([some (lch b1 104 [iv mem, iv pat, .slice ma f1.length mc, .slice ga f2.length gc])]) := by exact hO685.sub (List.singleton_sublist.2 (by simp))
        refine ⟨hS687, ?_⟩
        refine rhl_v 5 rfl (by kernel_rfl) rfl rfl rfl hS687 (fun _ hS => ov_iface rfl Try.underlying185 (by intro _ h; cases h) rfl) ?_
        refine rhl_any1 11 (by kernel_rfl) ?_
        refine rcl_op rfl rfl (ow_box _ rfl rfl rfl rfl rfl hO685) ?_
        rintro _ w688 ⟨bs1, rfl, hO689, hs690⟩
        have hS691 : Own B w0 w688 ([some (lch b1 104 [iv mem, iv pat, .slice ma f1.length mc, .slice ga f2.length gc])]) := by exact hO689.sub (List.singleton_sublist.2 (by simp))
        refine ⟨hS691, ?_⟩
        refine rhl_v 12 rfl (by kernel_rfl) rfl rfl rfl hS691 (fun _ hS => ov_iface rfl Try.underlying192 (by intro _ h; cases h) rfl) ?_
        refine rhl_v 20 rfl (by kernel_rfl) rfl rfl rfl hS691 (fun _ hS => ov_buildNodes rfl rfl rfl rfl) ?_
        refine rhl_any1 21 (by kernel_rfl) ?_
        refine rcl_op rfl rfl (ow_v rfl rfl (ov_nil rfl rfl)) ?_
        rintro _ _ ⟨rfl, hw692⟩
        replace hw692 := hw692.symm; subst hw692
        refine ⟨hS691, ?_⟩
        refine rhl_any1 22 (by kernel_rfl) ?_
        refine rcl_op rfl rfl (ow_v rfl rfl (ov_fieldS rfl Try.underlying184 rfl (fo := 5) rfl (by kernel_rfl) rfl)) ?_
        rintro _ _ ⟨rfl, hw693⟩
        replace hw693 := hw693.symm; subst hw693
        refine ⟨hS691, ?_⟩
        refine rhl_any1 23 (by kernel_rfl) ?_
        refine rcl_last rfl rfl (ow_storeP rfl rfl (by kernel_rfl) hO689 6 rfl rfl rfl rfl rfl rfl) ?_
        rintro _ w694 ⟨rfl, hO695, hs696⟩
        refine rhl_done (by kernel_rfl) ?_
        refine run_seq <| run_region <| rl_v rfl rfl rfl (ov_move rfl rfl) <| rl_v rfl rfl rfl (ov_assign rfl rfl) <| rl_v rfl rfl rfl (ov_assign rfl rfl) <| rl_nil <| run_ret Try.func50 (res2 Try.results50 rfl rfl) ?_
        exact .inr ⟨badn, ⟨bw, bc, bs1, bs2⟩, rfl, freshWorld hr1 hr2 (((((((hO695.perm (perm_front (k := 4) rfl)).perm (perm_front (k := 5) rfl)).perm (perm_front (k := 5) rfl)).perm (perm_front (k := 5) rfl)).perm (perm_front (k := 4) rfl)).perm (perm_front (k := 5) rfl)).perm (perm_front (k := 6) rfl))⟩
       ·refine rcl_op rfl rfl (ow_box _ rfl rfl rfl rfl rfl hO681) ?_
        rintro _ w697 ⟨bs1, rfl, hO698, hs699⟩
        have hS700 : Own B w0 w697 ([some (lch b1 104 [iv mem, iv pat, .slice ma f1.length mc, .slice ga f2.length gc])]) := by exact hO698.sub (List.singleton_sublist.2 (by simp))
        refine ⟨hS700, ?_⟩
        refine rhl_v 12 rfl (by kernel_rfl) rfl rfl rfl hS700 (fun _ hS => ov_iface rfl Try.underlying192 (by intro _ h; cases h) rfl) ?_
        refine rhl_any1 4 (by kernel_rfl) ?_
        refine rcl_op rfl rfl (ow_box _ rfl rfl rfl rfl rfl hO698) ?_
        rintro _ w701 ⟨bc, rfl, hO702, hs703⟩
        have hS704 : Own B w0 w701 ([some (lch b1 104 [iv mem, iv pat, .slice ma f1.length mc, .slice ga f2.length gc])]) := by exact hO702.sub (List.singleton_sublist.2 (by simp))
        refine ⟨hS704, ?_⟩
        refine rhl_v 5 rfl (by kernel_rfl) rfl rfl rfl hS704 (fun _ hS => ov_iface rfl Try.underlying185 (by intro _ h; cases h) rfl) ?_
        refine rhl_v 20 rfl (by kernel_rfl) rfl rfl rfl hS704 (fun _ hS => ov_buildNodes rfl rfl rfl rfl) ?_
        refine rhl_any1 21 (by kernel_rfl) ?_
        refine rcl_op rfl rfl (ow_v rfl rfl (ov_nil rfl rfl)) ?_
        rintro _ _ ⟨rfl, hw705⟩
        replace hw705 := hw705.symm; subst hw705
        refine ⟨hS704, ?_⟩
        refine rhl_any1 22 (by kernel_rfl) ?_
        refine rcl_op rfl rfl (ow_v rfl rfl (ov_fieldS rfl Try.underlying184 rfl (fo := 5) rfl (by kernel_rfl) rfl)) ?_
        rintro _ _ ⟨rfl, hw706⟩
        replace hw706 := hw706.symm; subst hw706
        refine ⟨hS704, ?_⟩
        refine rhl_any1 23 (by kernel_rfl) ?_
        refine rcl_last rfl rfl (ow_storeP rfl rfl (by kernel_rfl) hO702 6 rfl rfl rfl rfl rfl rfl) ?_
        rintro _ w707 ⟨rfl, hO708, hs709⟩
        refine rhl_done (by kernel_rfl) ?_
        refine run_seq <| run_region <| rl_v rfl rfl rfl (ov_move rfl rfl) <| rl_v rfl rfl rfl (ov_assign rfl rfl) <| rl_v rfl rfl rfl (ov_assign rfl rfl) <| rl_nil <| run_ret Try.func50 (res2 Try.results50 rfl rfl) ?_
        exact .inr ⟨badn, ⟨bw, bc, bs1, bs2⟩, rfl, freshWorld hr1 hr2 (((((((hO708.perm (perm_front (k := 4) rfl)).perm (perm_front (k := 5) rfl)).perm (perm_front (k := 5) rfl)).perm (perm_front (k := 5) rfl)).perm (perm_front (k := 5) rfl)).perm (perm_front (k := 5) rfl)).perm (perm_front (k := 6) rfl))⟩
     ·refine rcl_op rfl rfl (ow_box _ rfl rfl rfl rfl rfl hOb) ?_
      rintro _ w710 ⟨bs1, rfl, hO711, hs712⟩
      have hS713 : Own B w0 w710 ([some (lch b1 104 [iv mem, iv pat, .slice ma f1.length mc, .slice ga f2.length gc])]) := by exact hO711.sub (List.singleton_sublist.2 (by simp))
      refine ⟨hS713, ?_⟩
      refine rhl_v 12 rfl (by kernel_rfl) rfl rfl rfl hS713 (fun _ hS => ov_iface rfl Try.underlying192 (by intro _ h; cases h) rfl) ?_
      refine rhl_any2 2 18 (by kernel_rfl) ?_ ?_
      ·refine rcl_op rfl rfl (ow_makemap rfl rfl rfl hO711) ?_
       rintro _ w714 ⟨bm, rfl, hO715, hs716⟩
       have hS717 : Own B w0 w714 ([some (lch b1 104 [iv mem, iv pat, .slice ma f1.length mc, .slice ga f2.length gc])]) := by exact hO715.sub (List.singleton_sublist.2 (by simp))
       refine ⟨hS717, ?_⟩
       refine rhl_v 3 rfl (by kernel_rfl) rfl rfl rfl hS717 (fun _ hS => ov_buildL rfl lay_191 rfl (us := [_, _, _, _, _, _]) rfl) ?_
       refine rhl_any2 4 18 (by kernel_rfl) ?_ ?_
       ·refine rcl_op rfl rfl (ow_box _ rfl rfl rfl rfl rfl hO715) ?_
        rintro _ w718 ⟨bc, rfl, hO719, hs720⟩
        have hS721 : Own B w0 w718 ([some (lch b1 104 [iv mem, iv pat, .slice ma f1.length mc, .slice ga f2.length gc])]) := by exact hO719.sub (List.singleton_sublist.2 (by simp))
        refine ⟨hS721, ?_⟩
        refine rhl_v 5 rfl (by kernel_rfl) rfl rfl rfl hS721 (fun _ hS => ov_iface rfl Try.underlying185 (by intro _ h; cases h) rfl) ?_
        refine rhl_any1 18 (by kernel_rfl) ?_
        refine rcl_op rfl rfl (ow_box _ rfl rfl rfl rfl rfl hO719) ?_
        rintro _ w722 ⟨bs2, rfl, hO723, hs724⟩
        have hS725 : Own B w0 w722 ([some (lch b1 104 [iv mem, iv pat, .slice ma f1.length mc, .slice ga f2.length gc])]) := by exact hO723.sub (List.singleton_sublist.2 (by simp))
        refine ⟨hS725, ?_⟩
        refine rhl_v 19 rfl (by kernel_rfl) rfl rfl rfl hS725 (fun _ hS => ov_iface rfl Try.underlying192 (by intro _ h; cases h) rfl) ?_
        refine rhl_v 20 rfl (by kernel_rfl) rfl rfl rfl hS725 (fun _ hS => ov_buildNodes rfl rfl rfl rfl) ?_
        refine rhl_any1 21 (by kernel_rfl) ?_
        refine rcl_op rfl rfl (ow_v rfl rfl (ov_nil rfl rfl)) ?_
        rintro _ _ ⟨rfl, hw726⟩
        replace hw726 := hw726.symm; subst hw726
        refine ⟨hS725, ?_⟩
        refine rhl_any1 22 (by kernel_rfl) ?_
        refine rcl_op rfl rfl (ow_v rfl rfl (ov_fieldS rfl Try.underlying184 rfl (fo := 5) rfl (by kernel_rfl) rfl)) ?_
        rintro _ _ ⟨rfl, hw727⟩
        replace hw727 := hw727.symm; subst hw727
        refine ⟨hS725, ?_⟩
        refine rhl_any1 23 (by kernel_rfl) ?_
        refine rcl_last rfl rfl (ow_storeP rfl rfl (by kernel_rfl) hO723 6 rfl rfl rfl rfl rfl rfl) ?_
        rintro _ w728 ⟨rfl, hO729, hs730⟩
        refine rhl_done (by kernel_rfl) ?_
        refine run_seq <| run_region <| rl_v rfl rfl rfl (ov_move rfl rfl) <| rl_v rfl rfl rfl (ov_assign rfl rfl) <| rl_v rfl rfl rfl (ov_assign rfl rfl) <| rl_nil <| run_ret Try.func50 (res2 Try.results50 rfl rfl) ?_
        exact .inr ⟨badn, ⟨bw, bc, bs1, bs2⟩, rfl, freshWorld hr1 hr2 (((((((hO729.perm (perm_front (k := 4) rfl)).perm (perm_front (k := 5) rfl)).perm (perm_front (k := 4) rfl)).perm (perm_front (k := 3) rfl)).perm (perm_front (k := 5) rfl)).perm (perm_front (k := 5) rfl)).perm (perm_front (k := 6) rfl))⟩
       ·refine rcl_op rfl rfl (ow_box _ rfl rfl rfl rfl rfl hO715) ?_
        rintro _ w731 ⟨bs2, rfl, hO732, hs733⟩
        have hS734 : Own B w0 w731 ([some (lch b1 104 [iv mem, iv pat, .slice ma f1.length mc, .slice ga f2.length gc])]) := by exact hO732.sub (List.singleton_sublist.2 (by simp))
        refine ⟨hS734, ?_⟩
        refine rhl_v 19 rfl (by kernel_rfl) rfl rfl rfl hS734 (fun _ hS => ov_iface rfl Try.underlying192 (by intro _ h; cases h) rfl) ?_
        refine rhl_any1 4 (by kernel_rfl) ?_
        refine rcl_op rfl rfl (ow_box _ rfl rfl rfl rfl rfl hO732) ?_
        rintro _ w735 ⟨bc, rfl, hO736, hs737⟩
        have hS738 : Own B w0 w735 ([some (lch b1 104 [iv mem, iv pat, .slice ma f1.length mc, .slice ga f2.length gc])]) := by exact hO736.sub (List.singleton_sublist.2 (by simp))
        refine ⟨hS738, ?_⟩
        refine rhl_v 5 rfl (by kernel_rfl) rfl rfl rfl hS738 (fun _ hS => ov_iface rfl Try.underlying185 (by intro _ h; cases h) rfl) ?_
        refine rhl_v 20 rfl (by kernel_rfl) rfl rfl rfl hS738 (fun _ hS => ov_buildNodes rfl rfl rfl rfl) ?_
        refine rhl_any1 21 (by kernel_rfl) ?_
        refine rcl_op rfl rfl (ow_v rfl rfl (ov_nil rfl rfl)) ?_
        rintro _ _ ⟨rfl, hw739⟩
        replace hw739 := hw739.symm; subst hw739
        refine ⟨hS738, ?_⟩
        refine rhl_any1 22 (by kernel_rfl) ?_
        refine rcl_op rfl rfl (ow_v rfl rfl (ov_fieldS rfl Try.underlying184 rfl (fo := 5) rfl (by kernel_rfl) rfl)) ?_
        rintro _ _ ⟨rfl, hw740⟩
        replace hw740 := hw740.symm; subst hw740
        refine ⟨hS738, ?_⟩
        refine rhl_any1 23 (by kernel_rfl) ?_
        refine rcl_last rfl rfl (ow_storeP rfl rfl (by kernel_rfl) hO736 6 rfl rfl rfl rfl rfl rfl) ?_
        rintro _ w741 ⟨rfl, hO742, hs743⟩
        refine rhl_done (by kernel_rfl) ?_
        refine run_seq <| run_region <| rl_v rfl rfl rfl (ov_move rfl rfl) <| rl_v rfl rfl rfl (ov_assign rfl rfl) <| rl_v rfl rfl rfl (ov_assign rfl rfl) <| rl_nil <| run_ret Try.func50 (res2 Try.results50 rfl rfl) ?_
        exact .inr ⟨badn, ⟨bw, bc, bs1, bs2⟩, rfl, freshWorld hr1 hr2 (((((((hO742.perm (perm_front (k := 4) rfl)).perm (perm_front (k := 5) rfl)).perm (perm_front (k := 4) rfl)).perm (perm_front (k := 4) rfl)).perm (perm_front (k := 5) rfl)).perm (perm_front (k := 5) rfl)).perm (perm_front (k := 6) rfl))⟩
      ·refine rcl_op rfl rfl (ow_box _ rfl rfl rfl rfl rfl hO711) ?_
       rintro _ w744 ⟨bs2, rfl, hO745, hs746⟩
       have hS747 : Own B w0 w744 ([some (lch b1 104 [iv mem, iv pat, .slice ma f1.length mc, .slice ga f2.length gc])]) := by exact hO745.sub (List.singleton_sublist.2 (by simp))
       refine ⟨hS747, ?_⟩
       refine rhl_v 19 rfl (by kernel_rfl) rfl rfl rfl hS747 (fun _ hS => ov_iface rfl Try.underlying192 (by intro _ h; cases h) rfl) ?_
       refine rhl_any1 2 (by kernel_rfl) ?_
       refine rcl_op rfl rfl (ow_makemap rfl rfl rfl hO745) ?_
       rintro _ w748 ⟨bm, rfl, hO749, hs750⟩
       have hS751 : Own B w0 w748 ([some (lch b1 104 [iv mem, iv pat, .slice ma f1.length mc, .slice ga f2.length gc])]) := by exact hO749.sub (List.singleton_sublist.2 (by simp))
       refine ⟨hS751, ?_⟩
       refine rhl_v 3 rfl (by kernel_rfl) rfl rfl rfl hS751 (fun _ hS => ov_buildL rfl lay_191 rfl (us := [_, _, _, _, _, _]) rfl) ?_
       refine rhl_any1 4 (by kernel_rfl) ?_
       refine rcl_op rfl rfl (ow_box _ rfl rfl rfl rfl rfl hO749) ?_
       rintro _ w752 ⟨bc, rfl, hO753, hs754⟩
       have hS755 : Own B w0 w752 ([some (lch b1 104 [iv mem, iv pat, .slice ma f1.length mc, .slice ga f2.length gc])]) := by exact hO753.sub (List.singleton_sublist.2 (by simp))
       refine ⟨hS755, ?_⟩
       refine rhl_v 5 rfl (by kernel_rfl) rfl rfl rfl hS755 (fun _ hS => ov_iface rfl Try.underlying185 (by intro _ h; cases h) rfl) ?_
       refine rhl_v 20 rfl (by kernel_rfl) rfl rfl rfl hS755 (fun _ hS => ov_buildNodes rfl rfl rfl rfl) ?_
       refine rhl_any1 21 (by kernel_rfl) ?_
       refine rcl_op rfl rfl (ow_v rfl rfl (ov_nil rfl rfl)) ?_
       rintro _ _ ⟨rfl, hw756⟩
       replace hw756 := hw756.symm; subst hw756
       refine ⟨hS755, ?_⟩
       refine rhl_any1 22 (by kernel_rfl) ?_
       refine rcl_op rfl rfl (ow_v rfl rfl (ov_fieldS rfl Try.underlying184 rfl (fo := 5) rfl (by kernel_rfl) rfl)) ?_
       rintro _ _ ⟨rfl, hw757⟩
       replace hw757 := hw757.symm; subst hw757
       refine ⟨hS755, ?_⟩
       refine rhl_any1 23 (by kernel_rfl) ?_
       refine rcl_last rfl rfl (ow_storeP rfl rfl (by kernel_rfl) hO753 6 rfl rfl rfl rfl rfl rfl) ?_
       rintro _ w758 ⟨rfl, hO759, hs760⟩
       refine rhl_done (by kernel_rfl) ?_
       refine run_seq <| run_region <| rl_v rfl rfl rfl (ov_move rfl rfl) <| rl_v rfl rfl rfl (ov_assign rfl rfl) <| rl_v rfl rfl rfl (ov_assign rfl rfl) <| rl_nil <| run_ret Try.func50 (res2 Try.results50 rfl rfl) ?_
       exact .inr ⟨badn, ⟨bw, bc, bs1, bs2⟩, rfl, freshWorld hr1 hr2 (((((((hO759.perm (perm_front (k := 4) rfl)).perm (perm_front (k := 5) rfl)).perm (perm_front (k := 3) rfl)).perm (perm_front (k := 4) rfl)).perm (perm_front (k := 5) rfl)).perm (perm_front (k := 5) rfl)).perm (perm_front (k := 6) rfl))⟩
     ·refine rcl_op rfl rfl (ow_box _ rfl rfl rfl rfl rfl hOb) ?_
      rintro _ w761 ⟨bs2, rfl, hO762, hs763⟩
      have hS764 : Own B w0 w761 ([some (lch b1 104 [iv mem, iv pat, .slice ma f1.length mc, .slice ga f2.length gc])]) := by exact hO762.sub (List.singleton_sublist.2 (by simp))
      refine ⟨hS764, ?_⟩
      refine rhl_v 19 rfl (by kernel_rfl) rfl rfl rfl hS764 (fun _ hS => ov_iface rfl Try.underlying192 (by intro _ h; cases h) rfl) ?_
      refine rhl_any2 2 11 (by kernel_rfl) ?_ ?_
      ·refine rcl_op rfl rfl (ow_makemap rfl rfl rfl hO762) ?_
       rintro _ w765 ⟨bm, rfl, hO766, hs767⟩
       have hS768 : Own B w0 w765 ([some (lch b1 104 [iv mem, iv pat, .slice ma f1.length mc, .slice ga f2.length gc])]) := by exact hO766.sub (List.singleton_sublist.2 (by simp))
       refine ⟨hS768, ?_⟩
       refine rhl_v 3 rfl (by kernel_rfl) rfl rfl rfl hS768 (fun _ hS => ov_buildL rfl lay_191 rfl (us := [_, _, _, _, _, _]) rfl) ?_
       refine rhl_any2 4 11 (by kernel_rfl) ?_ ?_
       ·refine rcl_op rfl rfl (ow_box _ rfl rfl rfl rfl rfl hO766) ?_
        rintro _ w769 ⟨bc, rfl, hO770, hs771⟩
        have hS772 : Own B w0 w769 ([some (lch b1 104 [iv mem, iv pat, .slice ma f1.length mc, .slice ga f2.length gc])]) := by exact hO770.sub (List.singleton_sublist.2 (by simp))
        refine ⟨hS772, ?_⟩
        refine rhl_v 5 rfl (by kernel_rfl) rfl rfl rfl hS772 (fun _ hS => ov_iface rfl Try.underlying185 (by intro _ h; cases h) rfl) ?_
        refine rhl_any1 11 (by kernel_rfl) ?_
        refine rcl_op rfl rfl (ow_box _ rfl rfl rfl rfl rfl hO770) ?_
        rintro _ w773 ⟨bs1, rfl, hO774, hs775⟩
        have hS776 : Own B w0 w773 ([some (lch b1 104 [iv mem, iv pat, .slice ma f1.length mc, .slice ga f2.length gc])]) := by exact hO774.sub (List.singleton_sublist.2 (by simp))
        refine ⟨hS776, ?_⟩
        refine rhl_v 12 rfl (by kernel_rfl) rfl rfl rfl hS776 (fun _ hS => ov_iface rfl Try.underlying192 (by intro _ h; cases h) rfl) ?_
        refine rhl_v 20 rfl (by kernel_rfl) rfl rfl rfl hS776 (fun _ hS => ov_buildNodes rfl rfl rfl rfl) ?_
        refine rhl_any1 21 (by kernel_rfl) ?_
        refine rcl_op rfl rfl (ow_v rfl rfl (ov_nil rfl rfl)) ?_
        rintro _ _ ⟨rfl, hw777⟩
        replace hw777 := hw777.symm; subst hw777
        refine ⟨hS776, ?_⟩
        refine rhl_any1 22 (by kernel_rfl) ?_
        refine rcl_op rfl rfl (ow_v rfl rfl (ov_fieldS rfl Try.underlying184 rfl (fo := 5) rfl (by kernel_rfl) rfl)) ?_
        rintro _ _ ⟨rfl, hw778⟩
        replace hw778 := hw778.symm; subst hw778
        refine ⟨hS776, ?_⟩
        refine rhl_any1 23 (by kernel_rfl) ?_
        refine rcl_last rfl rfl (ow_storeP rfl rfl (by kernel_rfl) hO774 6 rfl rfl rfl rfl rfl rfl) ?_
        rintro _ w779 ⟨rfl, hO780, hs781⟩
        refine rhl_done (by kernel_rfl) ?_
        refine run_seq <| run_region <| rl_v rfl rfl rfl (ov_move rfl rfl) <| rl_v rfl rfl rfl (ov_assign rfl rfl) <| rl_v rfl rfl rfl (ov_assign rfl rfl) <| rl_nil <| run_ret Try.func50 (res2 Try.results50 rfl rfl) ?_
        exact .inr ⟨badn, ⟨bw, bc, bs1, bs2⟩, rfl, freshWorld hr1 hr2 (((((((hO780.perm (perm_front (k := 4) rfl)).perm (perm_front (k := 5) rfl)).perm (perm_front (k := 4) rfl)).perm (perm_front (k := 5) rfl)).perm (perm_front (k := 4) rfl)).perm (perm_front (k := 5) rfl)).perm (perm_front (k := 6) rfl))⟩
       ·refine rcl_op rfl rfl (ow_box _ rfl rfl rfl rfl rfl hO766) ?_
        rintro _ w782 ⟨bs1, rfl, hO783, hs784⟩
        have hS785 : Own B w0 w782 ([some (lch b1 104 [iv mem, iv pat, .slice ma f1.length mc, .slice ga f2.length gc])]) := by exact hO783.sub (List.singleton_sublist.2 (by simp))
        refine ⟨hS785, ?_⟩
        refine rhl_v 12 rfl (by kernel_rfl) rfl rfl rfl hS785 (fun _ hS => ov_iface rfl Try.underlying192 (by intro _ h; cases h) rfl) ?_
        refine rhl_any1 4 (by kernel_rfl) ?_
        refine rcl_op rfl rfl (ow_box _ rfl rfl rfl rfl rfl hO783) ?_
        rintro _ w786 ⟨bc, rfl, hO787, hs788⟩
        have hS789 : Own B w0 w786 ([some (lch b1 104 [iv mem, iv pat, .slice ma f1.length mc, .slice ga f2.length gc])]) := by exact hO787.sub (List.singleton_sublist.2 (by simp))
        refine ⟨hS789, ?_⟩
        refine rhl_v 5 rfl (by kernel_rfl) rfl rfl rfl hS789 (fun _ hS => ov_iface rfl Try.underlying185 (by intro _ h; cases h) rfl) ?_
        refine rhl_v 20 rfl (by kernel_rfl) rfl rfl rfl hS789 (fun _ hS => ov_buildNodes rfl rfl rfl rfl) ?_
        refine rhl_any1 21 (by kernel_rfl) ?_
        refine rcl_op rfl rfl (ow_v rfl rfl (ov_nil rfl rfl)) ?_
        rintro _ _ ⟨rfl, hw790⟩
        replace hw790 := hw790.symm; subst hw790
        refine ⟨hS789, ?_⟩
        refine rhl_any1 22 (by kernel_rfl) ?_
        refine rcl_op rfl rfl (ow_v rfl rfl (ov_fieldS rfl Try.underlying184 rfl (fo := 5) rfl (by kernel_rfl) rfl)) ?_
        rintro _ _ ⟨rfl, hw791⟩
        replace hw791 := hw791.symm; subst hw791
        refine ⟨hS789, ?_⟩
        refine rhl_any1 23 (by kernel_rfl) ?_
        refine rcl_last rfl rfl (ow_storeP rfl rfl (by kernel_rfl) hO787 6 rfl rfl rfl rfl rfl rfl) ?_
        rintro _ w792 ⟨rfl, hO793, hs794⟩
        refine rhl_done (by kernel_rfl) ?_
        refine run_seq <| run_region <| rl_v rfl rfl rfl (ov_move rfl rfl) <| rl_v rfl rfl rfl (ov_assign rfl rfl) <| rl_v rfl rfl rfl (ov_assign rfl rfl) <| rl_nil <| run_ret Try.func50 (res2 Try.results50 rfl rfl) ?_
        exact .inr ⟨badn, ⟨bw, bc, bs1, bs2⟩, rfl, freshWorld hr1 hr2 (((((((hO793.perm (perm_front (k := 4) rfl)).perm (perm_front (k := 5) rfl)).perm (perm_front (k := 4) rfl)).perm (perm_front (k := 5) rfl)).perm (perm_front (k := 5) rfl)).perm (perm_front (k := 5) rfl)).perm (perm_front (k := 6) rfl))⟩
      ·refine rcl_op rfl rfl (ow_box _ rfl rfl rfl rfl rfl hO762) ?_
       rintro _ w795 ⟨bs1, rfl, hO796, hs797⟩
       have hS798 : Own B w0 w795 ([some (lch b1 104 [iv mem, iv pat, .slice ma f1.length mc, .slice ga f2.length gc])]) := by exact hO796.sub (List.singleton_sublist.2 (by simp))
       refine ⟨hS798, ?_⟩
       refine rhl_v 12 rfl (by kernel_rfl) rfl rfl rfl hS798 (fun _ hS => ov_iface rfl Try.underlying192 (by intro _ h; cases h) rfl) ?_
       refine rhl_any1 2 (by kernel_rfl) ?_
       refine rcl_op rfl rfl (ow_makemap rfl rfl rfl hO796) ?_
       rintro _ w799 ⟨bm, rfl, hO800, hs801⟩
       have hS802 : Own B w0 w799 ([some (lch b1 104 [iv mem, iv pat, .slice ma f1.length mc, .slice ga f2.length gc])]) := by exact hO800.sub (List.singleton_sublist.2 (by simp))
       refine ⟨hS802, ?_⟩
       refine rhl_v 3 rfl (by kernel_rfl) rfl rfl rfl hS802 (fun _ hS => ov_buildL rfl lay_191 rfl (us := [_, _, _, _, _, _]) rfl) ?_
       refine rhl_any1 4 (by kernel_rfl) ?_
       refine rcl_op rfl rfl (ow_box _ rfl rfl rfl rfl rfl hO800) ?_
       rintro _ w803 ⟨bc, rfl, hO804, hs805⟩
       have hS806 : Own B w0 w803 ([some (lch b1 104 [iv mem, iv pat, .slice ma f1.length mc, .slice ga f2.length gc])]) := by exact hO804.sub (List.singleton_sublist.2 (by simp))
       refine ⟨hS806, ?_⟩
       refine rhl_v 5 rfl (by kernel_rfl) rfl rfl rfl hS806 (fun _ hS => ov_iface rfl Try.underlying185 (by intro _ h; cases h) rfl) ?_
       refine rhl_v 20 rfl (by kernel_rfl) rfl rfl rfl hS806 (fun _ hS => ov_buildNodes rfl rfl rfl rfl) ?_
       refine rhl_any1 21 (by kernel_rfl) ?_
       refine rcl_op rfl rfl (ow_v rfl rfl (ov_nil rfl rfl)) ?_
       rintro _ _ ⟨rfl, hw807⟩
       replace hw807 := hw807.symm; subst hw807
       refine ⟨hS806, ?_⟩
       refine rhl_any1 22 (by kernel_rfl) ?_
       refine rcl_op rfl rfl (ow_v rfl rfl (ov_fieldS rfl Try.underlying184 rfl (fo := 5) rfl (by kernel_rfl) rfl)) ?_
       rintro _ _ ⟨rfl, hw808⟩
       replace hw808 := hw808.symm; subst hw808
       refine ⟨hS806, ?_⟩
       refine rhl_any1 23 (by kernel_rfl) ?_
       refine rcl_last rfl rfl (ow_storeP rfl rfl (by kernel_rfl) hO804 6 rfl rfl rfl rfl rfl rfl) ?_
       rintro _ w809 ⟨rfl, hO810, hs811⟩
       refine rhl_done (by kernel_rfl) ?_
       refine run_seq <| run_region <| rl_v rfl rfl rfl (ov_move rfl rfl) <| rl_v rfl rfl rfl (ov_assign rfl rfl) <| rl_v rfl rfl rfl (ov_assign rfl rfl) <| rl_nil <| run_ret Try.func50 (res2 Try.results50 rfl rfl) ?_
       exact .inr ⟨badn, ⟨bw, bc, bs1, bs2⟩, rfl, freshWorld hr1 hr2 (((((((hO810.perm (perm_front (k := 4) rfl)).perm (perm_front (k := 5) rfl)).perm (perm_front (k := 3) rfl)).perm (perm_front (k := 5) rfl)).perm (perm_front (k := 5) rfl)).perm (perm_front (k := 5) rfl)).perm (perm_front (k := 6) rfl))⟩
end Go.Proofs.Ytfbbagnpdfafjaa
