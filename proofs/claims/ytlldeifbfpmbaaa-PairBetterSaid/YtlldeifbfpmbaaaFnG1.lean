import Derived.Test.YtlldeifbfpmbaaaFnG0
import Derived.Test.YtlldeifbfpmbaaaFcH
set_option maxRecDepth 100000
namespace Go.Proofs.Ytlldeifbfpmbaaa
open Go.RowKit Go.Proofs Go.MapKept
section
variable (ga la : Option Addr) (n gc ln lc : Nat) (L : Int → Nat) (E : Int → Int → Int) (l : Int → Int) (w : World) (hn : n ≤ 64) (hv : SwapOk n L E) (h : RTab w.heap.size w ga n L E) (hL : ∀ r : Int, 0 ≤ r → r < n → L r ≤ 1000000) (hlr : IAt w.heap.size w la ln (fun i => iv (l i))) (hln : ln ≤ 1000000)
include hn hv h hL
theorem betterOff1_any (hb : ln ≠ n) : Calls Try.prog 27 #[.agg #[.slice ga n gc], .slice la ln lc] w fun e w' => e = .returned (.tuple #[.slice none 0 0, .bool false]) ∧ Below w.heap.size w w' := by
 have h0 := chkS_0.2 ⟨hn, hv⟩
 refine calls_of_run (F := [(0, _), (1, _)]) Try.func27 rfl Try.ntmps27 rfl rfl ?_
 have hO0 := Own.init w
 refine run_seq <| run_region <| rl_ow rfl (ow_box _ rfl rfl rfl rfl rfl hO0) ?_
 rintro _ w1 ⟨b1, rfl, hO2, hs3⟩
 refine rl_v rfl rfl rfl (ov_assign rfl rfl) <| rl_v rfl rfl rfl (ov_assign rfl rfl) <| rl_nil <| run_seq <| run_region <| rl_v rfl rfl rfl (ov_fieldS rfl Try.underlying49 rfl (fo := 0) rfl (by kernel_rfl) rfl) ?_
 refine rl_v rfl rfl rfl (ov_load rfl Try.underlying22 rfl rfl (by exact hO2.cellL 0 rfl (off := 0) rfl)) ?_
 refine rl_v rfl rfl rfl (ov_len rfl Try.underlying22 rfl) <| rl_v rfl rfl rfl (ov_assign rfl rfl) <| rl_nil <| run_seq <| run_seq <| run_region <| rl_v rfl rfl rfl (ov_loadW rfl Try.underlying49 rfl (by kernel_rfl) rfl hO2 0 rfl) ?_
 refine rl_call callable_36 rfl rfl rfl rfl rfl rfl (checkSwap_any ga n gc L E _ (by omega) hL (hO2.rtab h).tab) (fun e4 w5 hp6 => ?_)
 obtain ⟨rfl, hbl⟩ := hp6
 refine ⟨_, rfl, ?_⟩
 have hO7 := hO2.past hbl
 refine rl_v rfl rfl rfl (ov_neq rfl rfl rfl) <| rl_v rfl rfl rfl (ov_move rfl rfl) ?_
 first | refine rl_noD 21 rfl ((fun hbad => hbad h0)) ?_ | refine rl_no 21 rfl ((fun hbad => hbad h0)) ?_
 refine rl_gv rfl rfl rfl rfl rfl (ov_move rfl rfl) <| rl_gv rfl rfl rfl rfl rfl (ov_len rfl Try.underlying23 rfl) <| rl_gv rfl rfl rfl rfl rfl (ov_move rfl rfl) <| rl_gv rfl rfl rfl rfl rfl (ov_neq rfl rfl rfl) <| rl_v rfl rfl rfl (ov_pick_f rfl rfl rfl) <| rl_v rfl rfl rfl (ov_move rfl rfl) ?_
 first | refine rl_yesD 27 rfl ((by omega)) ?_ | refine rl_yes 27 rfl ((by omega)) ?_
 refine rl_gskip rfl rfl rfl rfl rfl rfl <| rl_gskip rfl rfl rfl rfl rfl rfl <| rl_v rfl rfl rfl (ov_pick_t rfl rfl rfl) <| rl_v rfl rfl rfl (ov_move rfl rfl) <| rl_gskip rfl rfl rfl rfl rfl rfl <| rl_gskip rfl rfl rfl rfl rfl rfl <| rl_gskip rfl rfl rfl rfl rfl rfl <| rl_gskip rfl rfl rfl rfl rfl rfl <| rl_v rfl rfl rfl (ov_pick_t rfl rfl rfl) <| rl_nil <| run_cond_t rfl <| run_seq <| run_region <| rl_v rfl rfl rfl (ov_assign rfl rfl) <| rl_v rfl rfl rfl (ov_assign rfl rfl) <| rl_nil <| run_ret Try.func27 (res2 Try.results27 rfl rfl) ?_
 exact ⟨rfl, hO7.below⟩
theorem betterOff2_any (hb : ln = n) (h12 : 12 < n) : Calls Try.prog 27 #[.agg #[.slice ga n gc], .slice la ln lc] w fun e w' => e = .returned (.tuple #[.slice none 0 0, .bool false]) ∧ Below w.heap.size w w' := by
 have h0 := chkS_0.2 ⟨hn, hv⟩
 refine calls_of_run (F := [(0, _), (1, _)]) Try.func27 rfl Try.ntmps27 rfl rfl ?_
 have hO0 := Own.init w
 refine run_seq <| run_region <| rl_ow rfl (ow_box _ rfl rfl rfl rfl rfl hO0) ?_
 rintro _ w1 ⟨b1, rfl, hO2, hs3⟩
 refine rl_v rfl rfl rfl (ov_assign rfl rfl) <| rl_v rfl rfl rfl (ov_assign rfl rfl) <| rl_nil <| run_seq <| run_region <| rl_v rfl rfl rfl (ov_fieldS rfl Try.underlying49 rfl (fo := 0) rfl (by kernel_rfl) rfl) ?_
 refine rl_v rfl rfl rfl (ov_load rfl Try.underlying22 rfl rfl (by exact hO2.cellL 0 rfl (off := 0) rfl)) ?_
 refine rl_v rfl rfl rfl (ov_len rfl Try.underlying22 rfl) <| rl_v rfl rfl rfl (ov_assign rfl rfl) <| rl_nil <| run_seq <| run_seq <| run_region <| rl_v rfl rfl rfl (ov_loadW rfl Try.underlying49 rfl (by kernel_rfl) rfl hO2 0 rfl) ?_
 refine rl_call callable_36 rfl rfl rfl rfl rfl rfl (checkSwap_any ga n gc L E _ (by omega) hL (hO2.rtab h).tab) (fun e4 w5 hp6 => ?_)
 obtain ⟨rfl, hbl⟩ := hp6
 refine ⟨_, rfl, ?_⟩
 have hO7 := hO2.past hbl
 refine rl_v rfl rfl rfl (ov_neq rfl rfl rfl) <| rl_v rfl rfl rfl (ov_move rfl rfl) ?_
 first | refine rl_noD 21 rfl ((fun hbad => hbad h0)) ?_ | refine rl_no 21 rfl ((fun hbad => hbad h0)) ?_
 refine rl_gv rfl rfl rfl rfl rfl (ov_move rfl rfl) <| rl_gv rfl rfl rfl rfl rfl (ov_len rfl Try.underlying23 rfl) <| rl_gv rfl rfl rfl rfl rfl (ov_move rfl rfl) <| rl_gv rfl rfl rfl rfl rfl (ov_neq rfl rfl rfl) <| rl_v rfl rfl rfl (ov_pick_f rfl rfl rfl) <| rl_v rfl rfl rfl (ov_move rfl rfl) ?_
 first | refine rl_noD 27 rfl ((by omega)) ?_ | refine rl_no 27 rfl ((by omega)) ?_
 refine rl_gv rfl rfl rfl rfl rfl (ov_move rfl rfl) <| rl_gv rfl rfl rfl rfl rfl (ov_gtr rfl rfl rfl) <| rl_v rfl rfl rfl (ov_pick_f rfl rfl rfl) <| rl_v rfl rfl rfl (ov_move rfl rfl) ?_
 first | refine rl_yesD 31 rfl ((by omega)) ?_ | refine rl_yes 31 rfl ((by omega)) ?_
 refine rl_gskip rfl rfl rfl rfl rfl rfl <| rl_gskip rfl rfl rfl rfl rfl rfl <| rl_gskip rfl rfl rfl rfl rfl rfl <| rl_gskip rfl rfl rfl rfl rfl rfl <| rl_v rfl rfl rfl (ov_pick_t rfl rfl rfl) <| rl_nil <| run_cond_t rfl <| run_seq <| run_region <| rl_v rfl rfl rfl (ov_assign rfl rfl) <| rl_v rfl rfl rfl (ov_assign rfl rfl) <| rl_nil <| run_ret Try.func27 (res2 Try.results27 rfl rfl) ?_
 exact ⟨rfl, hO7.below⟩
include hlr hln
theorem betterOff3_any (hb : ln = n) (h12 : n ≤ 12) (hl : ¬ IsL ln l n) : Calls Try.prog 27 #[.agg #[.slice ga n gc], .slice la ln lc] w fun e w' => e = .returned (.tuple #[.slice none 0 0, .bool false]) ∧ Below w.heap.size w w' := by
 have h0 := chkS_0.2 ⟨hn, hv⟩
 refine calls_of_run (F := [(0, _), (1, _)]) Try.func27 rfl Try.ntmps27 rfl rfl ?_
 have hO0 := Own.init w
 refine run_seq <| run_region <| rl_ow rfl (ow_box _ rfl rfl rfl rfl rfl hO0) ?_
 rintro _ w1 ⟨b1, rfl, hO2, hs3⟩
 refine rl_v rfl rfl rfl (ov_assign rfl rfl) <| rl_v rfl rfl rfl (ov_assign rfl rfl) <| rl_nil <| run_seq <| run_region <| rl_v rfl rfl rfl (ov_fieldS rfl Try.underlying49 rfl (fo := 0) rfl (by kernel_rfl) rfl) ?_
 refine rl_v rfl rfl rfl (ov_load rfl Try.underlying22 rfl rfl (by exact hO2.cellL 0 rfl (off := 0) rfl)) ?_
 refine rl_v rfl rfl rfl (ov_len rfl Try.underlying22 rfl) <| rl_v rfl rfl rfl (ov_assign rfl rfl) <| rl_nil <| run_seq <| run_seq <| run_region <| rl_v rfl rfl rfl (ov_loadW rfl Try.underlying49 rfl (by kernel_rfl) rfl hO2 0 rfl) ?_
 refine rl_call callable_36 rfl rfl rfl rfl rfl rfl (checkSwap_any ga n gc L E _ (by omega) hL (hO2.rtab h).tab) (fun e4 w5 hp6 => ?_)
 obtain ⟨rfl, hbl⟩ := hp6
 refine ⟨_, rfl, ?_⟩
 have hO7 := hO2.past hbl
 refine rl_v rfl rfl rfl (ov_neq rfl rfl rfl) <| rl_v rfl rfl rfl (ov_move rfl rfl) ?_
 first | refine rl_noD 21 rfl ((fun hbad => hbad h0)) ?_ | refine rl_no 21 rfl ((fun hbad => hbad h0)) ?_
 refine rl_gv rfl rfl rfl rfl rfl (ov_move rfl rfl) <| rl_gv rfl rfl rfl rfl rfl (ov_len rfl Try.underlying23 rfl) <| rl_gv rfl rfl rfl rfl rfl (ov_move rfl rfl) <| rl_gv rfl rfl rfl rfl rfl (ov_neq rfl rfl rfl) <| rl_v rfl rfl rfl (ov_pick_f rfl rfl rfl) <| rl_v rfl rfl rfl (ov_move rfl rfl) ?_
 first | refine rl_noD 27 rfl ((by omega)) ?_ | refine rl_no 27 rfl ((by omega)) ?_
 refine rl_gv rfl rfl rfl rfl rfl (ov_move rfl rfl) <| rl_gv rfl rfl rfl rfl rfl (ov_gtr rfl rfl rfl) <| rl_v rfl rfl rfl (ov_pick_f rfl rfl rfl) <| rl_v rfl rfl rfl (ov_move rfl rfl) ?_
 first | refine rl_noD 31 rfl ((by omega)) ?_ | refine rl_no 31 rfl ((by omega)) ?_
 refine rl_gv rfl rfl rfl rfl rfl (ov_move rfl rfl) <| rl_gv rfl rfl rfl rfl rfl (ov_move rfl rfl) ?_
 refine rl_gcall callable_56 rfl rfl rfl rfl rfl rfl rfl rfl (isList_any la ln lc n l _ hln (by omega) (hO7.iatF hlr)) (fun e8 w9 hp10 => ?_)
 obtain ⟨⟨b, rfl, hbb⟩, hb1⟩ := hp10
 refine ⟨_, rfl, ?_⟩
 have hO11 := hO7.past hb1
 refine rl_gv rfl rfl rfl rfl rfl (ov_not rfl rfl) <| rl_v rfl rfl rfl (ov_pick_f rfl rfl rfl) <| rl_nil ?_
 first | refine run_cond_dec rfl (fun c2 => ?_) (fun c2 => ?_) | refine run_cond rfl (fun c2 => ?_) (fun c2 => ?_)
 ·refine run_seq <| run_region <| rl_v rfl rfl rfl (ov_assign rfl rfl) <| rl_v rfl rfl rfl (ov_assign rfl rfl) <| rl_nil <| run_ret Try.func27 (res2 Try.results27 rfl rfl) ?_
  exact ⟨rfl, hO11.below⟩
 ·exfalso; exact hl (hbb.1 (by revert c2; cases b <;> simp))
end
end Go.Proofs.Ytlldeifbfpmbaaa
