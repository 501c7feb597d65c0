import Derived.Test.YteagflekbbchhaaReB
set_option maxRecDepth 100000
namespace Go.Proofs.Yteagflekbbchhaa
open Go.RowKit Go.Proofs
theorem rstate_any (X : MW) (K : RK) (d : Int) (B : Nat) (N H : List (Option Blk)) (w0 w : World) (hd : 1 ≤ d ∧ d ≤ X.deals.length) (hdn : X.deals.length ≤ 1000) (hO : Own B w0 w H) (hN : ∀ x ∈ N, x ∈ H) (hK : XIn N X K) :
  Calls Try.prog 35 #[rwv X K, iv d] w fun e w' => e = .returned (iv (if X.c.down then 0 else (X.kn d).st)) ∧ Own B w0 w' H := by
 obtain ⟨gb, hga, hrow⟩ := hK.tv.open
 refine calls_of_run (F := [(0, _), (1, _)]) Try.func35 rfl Try.ntmps35 rfl rfl <| run_seq <| run_region <| rl_ow rfl (ow_box _ rfl rfl rfl rfl rfl hO) ?_
 rintro _ w1 ⟨b2, rfl, hO2, hs3⟩
 refine rl_v rfl rfl rfl (ov_assign rfl rfl) <| rl_nil <| run_seq <| run_seq <| run_region <| rl_v rfl rfl rfl (ov_fieldS rfl Try.underlying69 rfl (fo := 7) rfl (by kernel_rfl) rfl) ?_
 refine rl_v rfl rfl rfl (ov_indexA rfl Try.underlying67 (by kernel_rfl) (s := 5) rfl rfl ⟨by omega, by omega⟩) ?_
 refine rl_v rfl rfl rfl (ov_fieldS rfl Try.underlying66 rfl (fo := 2) rfl (by kernel_rfl) rfl) ?_
 refine rl_v rfl rfl rfl (ov_load rfl Try.underlying4 rfl rfl (by exact hO2.cellL 0 rfl rfl)) ?_
 refine rl_v rfl rfl rfl (ov_move rfl rfl) ?_
 first | refine rl_split_dec 9 rfl (fun s1 => ?_) (fun s1 => ?_) | refine rl_split 9 rfl (fun s1 => ?_) (fun s1 => ?_)
 ·refine rl_gskip rfl rfl rfl rfl rfl rfl <| rl_gskip rfl rfl rfl rfl rfl rfl <| rl_v rfl rfl rfl (ov_pick_t rfl rfl rfl) <| rl_v rfl rfl rfl (ov_move rfl rfl) <| rl_gskip rfl rfl rfl rfl rfl rfl <| rl_gskip rfl rfl rfl rfl rfl rfl <| rl_gskip rfl rfl rfl rfl rfl rfl <| rl_gskip rfl rfl rfl rfl rfl rfl <| rl_gskip rfl rfl rfl rfl rfl rfl <| rl_v rfl rfl rfl (ov_pick_t rfl rfl rfl) <| rl_nil <| run_cond_t rfl <| run_seq <| run_region <| rl_v rfl rfl rfl (ov_assign rfl rfl) <| rl_nil <| run_ret Try.func35 (res1 Try.results35 rfl) ?_
  exact ⟨by rw [if_pos s1], hO2.tail⟩
 ·refine rl_gv rfl rfl rfl rfl rfl (ov_move rfl rfl) <| rl_gv rfl rfl rfl rfl rfl (ov_lss rfl rfl rfl) <| rl_v rfl rfl rfl (ov_pick_f rfl rfl rfl) <| rl_v rfl rfl rfl (ov_move rfl rfl) ?_
  first | refine rl_split_dec 13 rfl (fun s2 => ?_) (fun s2 => ?_) | refine rl_split 13 rfl (fun s2 => ?_) (fun s2 => ?_)
  ·refine rl_gskip rfl rfl rfl rfl rfl rfl <| rl_gskip rfl rfl rfl rfl rfl rfl <| rl_gskip rfl rfl rfl rfl rfl rfl <| rl_gskip rfl rfl rfl rfl rfl rfl <| rl_gskip rfl rfl rfl rfl rfl rfl <| rl_v rfl rfl rfl (ov_pick_t rfl rfl rfl) <| rl_nil <| run_cond_t rfl ?_
   exfalso; omega
  ·refine rl_gv rfl rfl rfl rfl rfl (ov_move rfl rfl) <| rl_gv rfl rfl rfl rfl rfl (ov_fieldS rfl Try.underlying69 rfl (fo := 4) rfl (by kernel_rfl) rfl) ?_
   refine rl_gv rfl rfl rfl rfl rfl (ov_load rfl Try.underlying25 rfl rfl (by exact hO2.cellL 0 rfl rfl)) ?_
   refine rl_gv rfl rfl rfl rfl rfl (ov_len rfl Try.underlying25 rfl) <| rl_gv rfl rfl rfl rfl rfl (ov_gtr rfl rfl rfl) <| rl_v rfl rfl rfl (ov_pick_f rfl rfl rfl) <| rl_nil ?_
   first | refine run_cond_dec rfl (fun k3 => ?_) (fun k3n => ?_) | refine run_cond rfl (fun k3 => ?_) (fun k3n => ?_)
   ·exfalso; omega
   ·refine run_skip <| run_seq <| run_region <| rl_v rfl rfl rfl (ov_fieldS rfl Try.underlying69 rfl (fo := 5) rfl (by kernel_rfl) rfl) ?_
    refine rl_v rfl rfl rfl (ov_load rfl Try.underlying62 rfl rfl (by exact hO2.cellL 0 rfl rfl)) ?_
    refine rl_v rfl rfl rfl (ov_move rfl rfl) <| rl_v rfl rfl rfl (ov_sub rfl rfl rfl (by omega)) ?_
    refine rl_v rfl rfl rfl (ov_index rfl Try.underlying62 (by kernel_rfl) (s := 5) rfl rfl ⟨by omega, by omega⟩ (by exact (hga (by omega)))) ?_
    refine rl_v rfl rfl rfl (ov_fieldS rfl Try.underlying127 rfl (fo := 0) rfl (by kernel_rfl) rfl) ?_
    refine rl_v rfl rfl rfl (ov_load rfl Try.underlying3 rfl rfl (by exact hrow hO2 (mem_c1 hN) (d - 1) (by omega) (by omega) 0 (by omega))) ?_
    refine rl_v rfl rfl rfl (ov_assign rfl rfl) <| rl_nil <| run_ret Try.func35 (res1 Try.results35 rfl) ?_
    exact ⟨by rw [if_neg (show ¬ X.c.down = true by rw [s1]; decide)]; show Ending.returned (iv (tks X (d - 1 + 1)).st) = _; unfold tks; rw [if_neg (show ¬ X.c.down = true by rw [s1]; decide), Int.sub_add_cancel], hO2.tail⟩
end Go.Proofs.Yteagflekbbchhaa
