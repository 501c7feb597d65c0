import Derived.Test.YtlldeifbfpmbaaaGreatFcH
import Derived.Test.YtlldeifbfpmbaaaGreatFeC
import Derived.Test.YtlldeifbfpmbaaaGreatFjA
import Derived.Test.YtlldeifbfpmbaaaGreatFcB
set_option maxRecDepth 100000
namespace Go.Proofs.YtlldeifbfpmbaaaGreat
open Go.RowKit Go.Proofs Go.MapKept
theorem refRight_any (ao : Option Addr) (n c : Nat) (N : Nat) (X : Int → Int) (w : World) (hn : n ≤ 1000000) (h : IAt w.heap.size w ao n (fun i => iv (X i))) :
  Calls Tryz.prog 48 #[.slice ao n c, iv N] w fun e w' => (∃ b, e = .returned (.bool b) ∧ (b = true ↔ IsL n X N)) ∧ Below w.heap.size w w' := by
 obtain ⟨gb, go, hga, hrow⟩ := h.open
 refine calls_of_run (F := [(0, _), (1, _)]) Tryz.func48 rfl Tryz.ntmps48 rfl rfl ?_
 have hO0 := Own.init w
 refine run_seq <| run_region <| rl_v rfl rfl rfl (ov_assign rfl rfl) <| rl_nil <| run_seq <| run_seq <| run_region <| rl_v rfl rfl rfl (ov_assign rfl rfl) <| rl_nil <| run_block <| Run.keep [0, 1, 5] (F' := [(0, _), (1, _), (5, _)]) rfl <| run_loop1 (fun (i : Int) => [(5, .int .i64 i)]) [0, 1] (fun (i : Int) (w1 : World) => 0 ≤ i ∧ i ≤ n ∧ (∀ k : Int, 0 ≤ k → k < i → 0 ≤ X k ∧ X k < N) ∧ (∀ a b : Int, 0 ≤ a → a < b → b < i → X a ≠ X b) ∧ Own w.heap.size w w1 []) (fun (i : Int) => ((n : Int) - i).toNat) (0) ?_ (And.intro (by exact slot_int rfl (by first | omega)) (And.intro rfl (And.intro rfl trivial))) ?_
 ·exact ⟨by omega, by omega, fun k k0 k1 => by omega, fun a b a0 a1 b1 => by omega, hO0⟩
 intro i w1 hIw1 ih2
 obtain ⟨hi0, hi1, hr, hd, hO⟩ := hIw1
 show Run _ _ _ _ [(5, _), (0, _), (1, _)] _ _
 refine run_seq <| run_seq <| run_region <| rl_v rfl rfl rfl (ov_move rfl rfl) <| rl_v rfl rfl rfl (ov_move rfl rfl) <| rl_v rfl rfl rfl (ov_len rfl Tryz.underlying23 rfl) <| rl_v rfl rfl rfl (ov_lss rfl rfl rfl) <| rl_nil ?_
 first | refine run_cond_dec rfl (fun h1 => ?_) (fun h1 => ?_) | refine run_cond rfl (fun h1 => ?_) (fun h1 => ?_)
 ·refine run_skip <| run_seq <| run_block <| run_seq <| run_seq <| run_region_join 25 (.bool (decide (X i < 0 ∨ (N : Int) ≤ X i))) [0, 1, 5] (fun hk3 => ?_) ?_
  ·refine rl_v rfl rfl rfl (ov_move rfl rfl) <| rl_v rfl rfl rfl (ov_move rfl rfl) <| rl_v rfl rfl rfl (ov_index1 rfl Tryz.underlying23 (by kernel_rfl) rfl rfl ⟨by omega, by omega⟩ (by exact hga (by omega))) ?_
   refine rl_v rfl rfl rfl (ov_load rfl Tryz.underlying3 rfl rfl (by exact hrow _ hO.below _ (by omega) (by omega))) ?_
   refine rl_v rfl rfl rfl (ov_lss rfl rfl rfl) <| rl_v rfl rfl rfl (ov_move rfl rfl) ?_
   first | refine rl_split_dec 18 rfl (fun hg4 => ?_) (fun hg4 => ?_) | refine rl_split 18 rfl (fun hg4 => ?_) (fun hg4 => ?_)
   ·refine rl_gskip rfl rfl rfl rfl rfl rfl <| rl_gskip rfl rfl rfl rfl rfl rfl <| rl_gskip rfl rfl rfl rfl rfl rfl <| rl_gskip rfl rfl rfl rfl rfl rfl <| rl_gskip rfl rfl rfl rfl rfl rfl <| rl_gskip rfl rfl rfl rfl rfl rfl <| rl_v rfl rfl rfl (ov_pick_t rfl rfl rfl) ?_
    refine rl_nil (hk3 _ (jbt rfl (by omega)) (And.intro rfl (And.intro rfl (And.intro rfl trivial))))
   ·refine rl_gv rfl rfl rfl rfl rfl (ov_move rfl rfl) <| rl_gv rfl rfl rfl rfl rfl (ov_move rfl rfl) <| rl_gv rfl rfl rfl rfl rfl (ov_index1 rfl Tryz.underlying23 (by kernel_rfl) rfl rfl ⟨by omega, by omega⟩ (by exact hga (by omega))) ?_
    refine rl_gv rfl rfl rfl rfl rfl (ov_load rfl Tryz.underlying3 rfl rfl (by exact hrow _ hO.below _ (by omega) (by omega))) ?_
    refine rl_gv rfl rfl rfl rfl rfl (ov_move rfl rfl) <| rl_gv rfl rfl rfl rfl rfl (ov_geq rfl rfl rfl) <| rl_v rfl rfl rfl (ov_pick_f rfl rfl rfl) ?_
    refine rl_nil (hk3 _ (jbd rfl (by omega)) (And.intro rfl (And.intro rfl (And.intro rfl trivial))))
  ·show Run _ _ _ _ [(25, _), (0, _), (1, _), (5, _)] _ _
   first | refine run_cond_dec rfl (fun h2 => ?_) (fun h2 => ?_) | refine run_cond rfl (fun h2 => ?_) (fun h2 => ?_)
   ·refine run_seq <| run_region <| rl_v rfl rfl rfl (ov_assign rfl rfl) <| rl_nil <| run_ret Tryz.func48 (res1 Tryz.results48 rfl) ?_
    exact ⟨⟨false, rfl, ⟨fun h => Bool.noConfusion h, fun h => by have := h.1 i hi0 h1; omega⟩⟩, hO.below⟩
   ·refine run_skip <| run_seq <| run_region <| rl_v rfl rfl rfl (ov_assign rfl rfl) <| rl_nil <| run_block <| Run.keep [0, 1, 5, 6] (F' := [(0, _), (1, _), (5, _), (6, _)]) rfl <| run_loop1 (fun (k : Int) => [(6, .int .i64 k)]) [0, 1, 5] (fun (k : Int) (w5 : World) => 0 ≤ k ∧ k ≤ i ∧ (∀ a : Int, 0 ≤ a → a < k → X a ≠ X i) ∧ Own w.heap.size w w5 []) (fun (k : Int) => (i - k).toNat) (0) ?_ (And.intro (by exact slot_int rfl (by first | omega)) (And.intro rfl (And.intro rfl (And.intro rfl trivial)))) ?_
    ·exact ⟨by omega, by omega, fun a a0 a1 => by omega, hO⟩
    intro k w5 hIw5 ih6
    obtain ⟨hk0, hk1, hd2, hO⟩ := hIw5
    show Run _ _ _ _ [(6, _), (0, _), (1, _), (5, _)] _ _
    refine run_seq <| run_seq <| run_region <| rl_v rfl rfl rfl (ov_move rfl rfl) <| rl_v rfl rfl rfl (ov_move rfl rfl) <| rl_v rfl rfl rfl (ov_lss rfl rfl rfl) <| rl_nil ?_
    first | refine run_cond_dec rfl (fun h3 => ?_) (fun h3 => ?_) | refine run_cond rfl (fun h3 => ?_) (fun h3 => ?_)
    ·refine run_skip <| run_seq <| run_block <| run_seq <| run_quiet mixed (by kernel_rfl) ?_
     refine rq_v rfl rfl rfl (fun _ => ov_move rfl rfl) ?_
     refine rq_v rfl rfl rfl (fun _ => ov_move rfl rfl) ?_
     refine rq_v rfl rfl rfl (fun _ => ov_index1 rfl Tryz.underlying23 (by kernel_rfl) rfl rfl ⟨by omega, by omega⟩ (by exact hga (by omega))) ?_
     refine rq_v rfl rfl rfl (fun _ => ov_load rfl Tryz.underlying3 rfl rfl (by show World.cell? w5 _ = _; first | exact hrow _ hO.below _ (by omega) (by omega) | exact hO.cellI 0 rfl _ (by omega) (by omega) | exact hO.cellL 0 rfl rfl | exact hO.cellI 1 rfl _ (by omega) (by omega) | exact hO.cellL 1 rfl rfl | exact hO.cellI 2 rfl _ (by omega) (by omega) | exact hO.cellL 2 rfl rfl | exact hO.cellI 3 rfl _ (by omega) (by omega) | exact hO.cellL 3 rfl rfl | exact hO.cellI 4 rfl _ (by omega) (by omega) | exact hO.cellL 4 rfl rfl | exact hO.cellI 5 rfl _ (by omega) (by omega) | exact hO.cellL 5 rfl rfl)) ?_
     refine rq_v rfl rfl rfl (fun _ => ov_move rfl rfl) ?_
     refine rq_v rfl rfl rfl (fun _ => ov_move rfl rfl) ?_
     refine rq_v rfl rfl rfl (fun _ => ov_index1 rfl Tryz.underlying23 (by kernel_rfl) rfl rfl ⟨by omega, by omega⟩ (by exact hga (by omega))) ?_
     refine rq_v rfl rfl rfl (fun _ => ov_load rfl Tryz.underlying3 rfl rfl (by show World.cell? w5 _ = _; first | exact hrow _ hO.below _ (by omega) (by omega) | exact hO.cellI 0 rfl _ (by omega) (by omega) | exact hO.cellL 0 rfl rfl | exact hO.cellI 1 rfl _ (by omega) (by omega) | exact hO.cellL 1 rfl rfl | exact hO.cellI 2 rfl _ (by omega) (by omega) | exact hO.cellL 2 rfl rfl | exact hO.cellI 3 rfl _ (by omega) (by omega) | exact hO.cellL 3 rfl rfl | exact hO.cellI 4 rfl _ (by omega) (by omega) | exact hO.cellL 4 rfl rfl | exact hO.cellI 5 rfl _ (by omega) (by omega) | exact hO.cellL 5 rfl rfl)) ?_
     refine rq_v rfl rfl rfl (fun _ => ov_eql rfl rfl rfl) ?_
     refine rq_nil (fun n7 => ?_)
     have hO9 := hO.drewN n7
     generalize World.drewN w5 n7 = w8 at hO9 ⊢
     first | refine run_cond_dec rfl (fun h4 => ?_) (fun h4 => ?_) | refine run_cond rfl (fun h4 => ?_) (fun h4 => ?_)
     ·refine run_seq <| run_region <| rl_v rfl rfl rfl (ov_assign rfl rfl) <| rl_nil <| run_ret Tryz.func48 (res1 Tryz.results48 rfl) ?_
      exact ⟨⟨false, rfl, ⟨fun h => Bool.noConfusion h, fun h => by have := h.2 k i hk0 (by omega) hi0 h1 h4; omega⟩⟩, hO9.below⟩
     ·refine run_skip <| run_inBlock <| run_region <| rl_v rfl rfl rfl (ov_move rfl rfl) <| rl_v rfl rfl rfl (ov_add rfl rfl rfl (by omega)) ?_
      refine rl_v rfl rfl rfl (ov_assign rfl rfl) <| rl_nil ?_
      refine Run.use (ih6 (k + 1) _ ?_ ?_) (And.intro (by exact slot_int rfl (by first | omega)) (And.intro rfl (And.intro rfl (And.intro rfl trivial))))
      ·first | omega | (dsimp only; omega)
      ·exact ⟨by omega, by omega, fun a a0 a1 => by by_cases e : a = k; (rw [e]; exact h4); (exact hd2 a a0 (by omega)), hO9⟩
    ·refine run_exit rfl <| run_inBlock <| run_region <| rl_v rfl rfl rfl (ov_move rfl rfl) <| rl_v rfl rfl rfl (ov_add rfl rfl rfl (by omega)) ?_
     refine rl_v rfl rfl rfl (ov_assign rfl rfl) <| rl_nil ?_
     refine Run.use (ih2 (i + 1) _ ?_ ?_) (And.intro (by exact slot_int rfl (by first | omega)) (And.intro rfl (And.intro rfl trivial)))
     ·first | omega | (dsimp only; omega)
     ·exact ⟨by omega, by omega, fun k k0 k1 => by by_cases e : k = i; (rw [e]; omega); (exact hr k k0 (by omega)), fun a b a0 a1 b1 => by by_cases e : b = i; (rw [e]; exact hd2 a a0 (by omega)); (exact hd a b a0 a1 (by omega)), hO⟩
 ·obtain rfl : i = n := by omega
  refine run_exit rfl <| run_seq <| run_region <| rl_v rfl rfl rfl (ov_assign rfl rfl) <| rl_nil <| run_ret Tryz.func48 (res1 Tryz.results48 rfl) ?_
  exact ⟨⟨true, rfl, ⟨fun _ => ⟨hr, fun a b a0 a1 b0 b1 e => by rcases Int.lt_trichotomy a b with h | h | h; (exact absurd e (hd a b a0 h b1)); (exact h); (exact absurd e.symm (hd b a b0 h a1))⟩, fun _ => rfl⟩⟩, hO.below⟩
end Go.Proofs.YtlldeifbfpmbaaaGreat
set_option maxRecDepth 100000
namespace Go.Proofs.YtlldeifbfpmbaaaGreat
open Go.RowKit Go.Proofs Go.MapKept
section
variable (ga ba qa aa xa : Option Addr) (gc bc qc an ac xn xc : Nat) (f : Fair) (a b : Int → Int) (w : World) (hV : Valid5 f f.m) (hF : FAg w.heap.size w ga ba qa f f.m) (han : an ≤ 1000000) (hxn : xn ≤ 1000000) (ha : IAt w.heap.size w aa an (fun i => iv (a i))) (hb : IAt w.heap.size w xa xn (fun i => iv (b i)))
include hV hF han hxn ha hb
end
end Go.Proofs.YtlldeifbfpmbaaaGreat
