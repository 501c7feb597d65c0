import Derived.Test.YtbcjfjldmfljgaaGreatFoA
set_option maxRecDepth 100000
namespace Go.Proofs.YtbcjfjldmfljgaaGreat
open Go.RowKit Go.Proofs Go.MapKept
theorem bitsLen_any (x : Nat) (w : World) (hx : 0 < x) (hx2 : x < 1000000) : Calls Tryz.prog 34 #[.int .u64 (x : Int)] w fun e w' => (∃ n : Nat, e = .returned (iv n) ∧ n ≤ 64) ∧ Below w.heap.size w w' := by
 refine calls_of_run (F := [(0, _)]) Tryz.func34 rfl Tryz.ntmps34 rfl rfl ?_
 have hO0 := Own.init w
 refine run_seq <| run_region <| rl_v rfl rfl rfl (ov_assign rfl rfl) <| rl_nil <| run_seq <| run_cond_f rfl <| run_skip <| run_seq <| run_region <| rl_v rfl rfl rfl (ov_move rfl rfl) ?_
 refine rl_call callable_66 rfl rfl rfl rfl rfl rfl (len64_any x _ hx (by omega)) (fun e1 w2 hp3 => ?_)
 obtain ⟨n, rfl, hw, h1, h2, h3, h4⟩ := hp3
 refine ⟨_, rfl, ?_⟩
 subst hw
 refine rl_v rfl rfl rfl (ov_assign rfl rfl) <| rl_nil <| run_ret Tryz.func34 (res1 Tryz.results34 rfl) ?_
 exact ⟨⟨n, rfl, h2⟩, hO0.below⟩
theorem pdq_any (b cap n B lim : Nat) (G : Int → Value) (X0 : Int → Int) (w0 w : World) (H : List (Option Blk)) (hn : 1 ≤ n ∧ n ≤ 12) (hc : n ≤ cap) (hS : SrtS5 n X0 X0 G) (hO : Own B w0 w (some (vch b 3 cap G) :: H)) :
  Calls Tryz.prog 33 #[.slice (some ⟨b, 0, none⟩) n cap, iv 0, iv n, iv lim] w fun e w' => e = .returned (.tuple #[]) ∧ ∃ (G' : Int → Value) (X : Int → Int), Own B w0 w' (some (vch b 3 cap G') :: H) ∧ SrtS5 n X0 X G' ∧ ∀ a b : Int, 0 ≤ a → a < b → b < n → X a < X b := by
 refine calls_of_run (F := [(0, _), (1, _), (2, _), (3, _)]) Tryz.func33 rfl Tryz.ntmps33 rfl rfl <| run_seq <| run_region <| rl_v rfl rfl rfl (ov_assign rfl rfl) <| rl_nil <| run_seq <| run_region <| rl_v rfl rfl rfl (ov_assign rfl rfl) <| rl_nil <| run_block <| run_once <| run_block <| run_seq <| run_region <| rl_v rfl rfl rfl (ov_move rfl rfl) <| rl_v rfl rfl rfl (ov_move rfl rfl) <| rl_v rfl rfl rfl (ov_sub rfl rfl rfl (by omega)) ?_
 refine rl_v rfl rfl rfl (ov_assign rfl rfl) <| rl_nil <| run_seq <| run_seq <| run_region <| rl_v rfl rfl rfl (ov_move rfl rfl) <| rl_v rfl rfl rfl (ov_leq rfl rfl rfl) <| rl_nil ?_
 first | refine run_cond_dec rfl (fun hc1 => ?_) (fun hc1 => ?_) | refine run_cond rfl (fun hc1 => ?_) (fun hc1 => ?_)
 ·refine run_seq <| run_region <| rl_v rfl rfl rfl (ov_move rfl rfl) <| rl_v rfl rfl rfl (ov_move rfl rfl) <| rl_v rfl rfl rfl (ov_move rfl rfl) ?_
  refine rl_call callable_56 rfl rfl rfl rfl rfl rfl (insSort_any b cap n B G X0 w0 _ H hn hc hS hO) (fun e2 w3 hp4 => ?_)
  obtain ⟨rfl, G', X, hO2, h2, h3⟩ := hp4
  refine ⟨_, rfl, ?_⟩
  refine rl_nil <| run_ret Tryz.func33 (res0 Tryz.results33) ?_
  exact ⟨rfl, G', X, hO2, h2, h3⟩
 ·exfalso; omega
theorem sort5_any (b cap n B : Nat) (G : Int → Value) (X0 : Int → Int) (w0 w : World) (H : List (Option Blk)) (hn : 1 ≤ n ∧ n ≤ 12) (hc : n ≤ cap) (hS : SrtS5 n X0 X0 G) (hO : Own B w0 w (some (vch b 3 cap G) :: H)) :
  Calls Tryz.prog 17 #[.slice (some ⟨b, 0, none⟩) n cap] w fun e w' => e = .returned (.tuple #[]) ∧ ∃ (G' : Int → Value) (X : Int → Int), Own B w0 w' (some (vch b 3 cap G') :: H) ∧ SrtS5 n X0 X G' ∧ ∀ a b : Int, 0 ≤ a → a < b → b < n → X a < X b := by
 refine calls_of_run (F := [(0, _)]) Tryz.func17 rfl Tryz.ntmps17 rfl rfl <| run_seq <| run_region <| rl_v rfl rfl rfl (ov_move rfl rfl) <| rl_v rfl rfl rfl (ov_len rfl Tryz.underlying30 rfl) <| rl_v rfl rfl rfl (ov_assign rfl rfl) <| rl_nil <| run_region <| rl_v rfl rfl rfl (ov_move rfl rfl) <| rl_v rfl rfl rfl (ov_move rfl rfl) <| rl_v rfl rfl rfl (ov_move rfl rfl) <| rl_v rfl rfl rfl (ov_convTo ((show IntKind.u64.wrap (n : Int) = (n : Int) from IntWalk.u64_in _ (by omega))) rfl Tryz.underlying3 Tryz.underlying23 rfl) ?_
 refine rl_call callable_34 rfl rfl rfl rfl rfl rfl (bitsLen_any n _ (by omega) (by omega)) (fun e1 w2 hp3 => ?_)
 obtain ⟨⟨lim, rfl, hlim⟩, hb1⟩ := hp3
 refine ⟨_, rfl, ?_⟩
 have hO4 := hO.past hb1
 refine rl_call callable_33 rfl rfl rfl rfl rfl rfl (pdq_any b cap n B lim G X0 w0 _ H hn hc hS hO4) (fun e5 w6 hp7 => ?_)
 obtain ⟨rfl, G', X, hO2, h2, h3⟩ := hp7
 refine ⟨_, rfl, ?_⟩
 refine rl_nil <| run_end Tryz.func17 (res0 Tryz.results17) ?_
 exact ⟨rfl, G', X, hO2, h2, h3⟩
end Go.Proofs.YtbcjfjldmfljgaaGreat
