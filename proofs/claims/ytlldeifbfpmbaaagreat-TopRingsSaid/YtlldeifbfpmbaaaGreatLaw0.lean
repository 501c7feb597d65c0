import Derived.Test.YtlldeifbfpmbaaaGreatFcG
import Derived.Test.YtlldeifbfpmbaaaGreatTab
import Derived.Test.YtlldeifbfpmbaaaGreatFacts
set_option maxRecDepth 100000
namespace Go.Proofs.YtlldeifbfpmbaaaGreat
open Go.RowKit Go.Proofs Go.MapKept
set_option maxHeartbeats 1000000 in
theorem ringsP_any (ga : Option Addr) (n gc : Nat) (L : Int → Nat) (E : Int → Int → Int) (w : World) (hn : n ≤ 64) (hv : SwapOk n L E) (h : RTab w.heap.size w ga n L E) :
  Calls Tryz.prog 33 #[.agg #[.slice ga n gc]] w fun e w' => ∃ (oa : Option Addr) (nr ocap : Nat) (Lr : Int → Nat) (R : Int → Int → Int) (o t : Int → Int) (H : List (Option Blk)), e = .returned (.tuple #[.slice oa nr ocap, iv 0]) ∧ Own w.heap.size w w' H ∧ ROwn H oa nr Lr R ∧ (wishOf n L E).Cert o t ∧ RO (wishOf n L E) (fun _ => true) o nr Lr R ∧ RiseR nr R := by
 have hL : ∀ i : Int, 0 ≤ i → i < n → L i ≤ n := fun i i0 i1 => pigeon (hv i i0 i1).1 (hv i i0 i1).2
 refine calls_of_run (F := [(0, _)]) Tryz.func33 rfl Tryz.ntmps33 rfl rfl ?_
 have hO0 := Own.init w
 refine run_seq <| run_region <| rl_ow rfl (ow_box _ rfl rfl rfl rfl rfl hO0) ?_
 rintro _ w1 ⟨b1, rfl, hO2, hs3⟩
 refine rl_v rfl rfl rfl (ov_assign rfl rfl) <| rl_v rfl rfl rfl (ov_assign rfl rfl) <| rl_nil <| run_seq <| run_seq <| run_region <| rl_v rfl rfl rfl (ov_loadW rfl Tryz.underlying63 rfl (by kernel_rfl) rfl hO2 0 rfl) ?_
 refine rl_call callable_58 rfl rfl rfl rfl rfl rfl (checkSwap_any ga n gc L E _ (by omega) (fun r r0 r1 => by have := hL r r0 r1; omega) (hO2.rtab h).tab) (fun e4 w5 hp6 => ?_)
 obtain ⟨rfl, hbl⟩ := hp6
 refine ⟨_, rfl, ?_⟩
 have hO7 := hO2.past hbl
 have h0 := chkS_0.2 ⟨hn, hv⟩
 refine rl_v rfl rfl rfl (ov_assign rfl rfl) <| rl_nil <| run_seq <| run_region <| rl_v rfl rfl rfl (ov_move rfl rfl) <| rl_v rfl rfl rfl (ov_neq rfl rfl rfl) <| rl_nil ?_
 first | refine run_cond_dec rfl (fun h1 => ?_) (fun h1 => ?_) | refine run_cond rfl (fun h1 => ?_) (fun h1 => ?_)
 ·exfalso; exact h1 h0
 ·refine run_skip <| run_seq <| run_region <| rl_v rfl rfl rfl (ov_loadW rfl Tryz.underlying63 rfl (by kernel_rfl) rfl hO7 0 rfl) ?_
  refine rl_call callable_59 rfl rfl rfl rfl rfl rfl (rings_any sortRows_all ga gc n L E _ hn hv (hO7.rtab h)) (fun e8 w9 hp10 => ?_)
  obtain ⟨oa, nr, ocap, Lr, R, o, t, H, rfl, hO1, hRW, hC, hRO, hR⟩ := hp10
  refine ⟨_, rfl, ?_⟩
  have hO11 := hO7.join hO1
  refine rl_v rfl rfl rfl (ov_assign rfl rfl) <| rl_v rfl rfl rfl (ov_assign rfl rfl) <| rl_nil <| run_ret Tryz.func33 (res2 Tryz.results33 rfl rfl) ?_
  exact ⟨oa, nr, ocap, Lr, R, o, t, H, rfl, hO11.sub (List.sublist_append_left _ _), hRW, hC, hRO, riseR_of hR⟩
end Go.Proofs.YtlldeifbfpmbaaaGreat
