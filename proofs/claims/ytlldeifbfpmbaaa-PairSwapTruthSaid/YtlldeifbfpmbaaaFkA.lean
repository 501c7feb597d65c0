import Derived.Test.YtlldeifbfpmbaaaFcH
import Derived.Test.YtlldeifbfpmbaaaFiA
import Derived.Test.YtlldeifbfpmbaaaFnB
set_option maxRecDepth 100000
namespace Go.Proofs.Ytlldeifbfpmbaaa
open Go.RowKit Go.Proofs Go.MapKept
theorem refRight_any (ao : Option Addr) (n c : Nat) (N : Nat) (X : Int → Int) (w : World) (hn : n ≤ 1000000) (h : IAt w.heap.size w ao n (fun i => iv (X i))) :
  Calls Try.prog 60 #[.slice ao n c, iv N] w fun e w' => (∃ b, e = .returned (.bool b) ∧ (b = true ↔ IsL n X N)) ∧ Below w.heap.size w w' := by
 obtain ⟨gb, go, hga, hrow⟩ := h.open
 refine calls_of_run (F := [(0, _), (1, _)]) Try.func60 rfl Try.ntmps60 rfl rfl ?_
 have hO0 := Own.init w
 refine run_seq <| run_region <| rl_v rfl rfl rfl (ov_assign rfl rfl) <| rl_nil <| run_seq <| run_seq <| run_region <| rl_v rfl rfl rfl (ov_assign rfl rfl) <| rl_nil <| run_block <| Run.keep [0, 1, 5] (F' := [(0, _), (1, _), (5, _)]) rfl <| run_loop1 (fun (i : Int) => [(5, .int .i64 i)]) [0, 1] (fun (i : Int) (w1 : World) => 0 ≤ i ∧ i ≤ n ∧ (∀ k : Int, 0 ≤ k → k < i → 0 ≤ X k ∧ X k < N) ∧ (∀ a b : Int, 0 ≤ a → a < b → b < i → X a ≠ X b) ∧ Own w.heap.size w w1 []) (fun (i : Int) => ((n : Int) - i).toNat) (0) ?_ (And.intro (by exact slot_int rfl (by first | omega)) (And.intro rfl (And.intro rfl trivial))) ?_
 ·exact ⟨by omega, by omega, fun k k0 k1 => by omega, fun a b a0 a1 b1 => by omega, hO0⟩
 intro i w1 hIw1 ih2
 obtain ⟨hi0, hi1, hr, hd, hO⟩ := hIw1
 show Run _ _ _ _ [(5, _), (0, _), (1, _)] _ _
 refine run_seq <| run_seq <| run_region <| rl_v rfl rfl rfl (ov_move rfl rfl) <| rl_v rfl rfl rfl (ov_move rfl rfl) <| rl_v rfl rfl rfl (ov_len rfl Try.underlying23 rfl) <| rl_v rfl rfl rfl (ov_lss rfl rfl rfl) <| rl_nil ?_
 first | refine run_cond_dec rfl (fun h1 => ?_) (fun h1 => ?_) | refine run_cond rfl (fun h1 => ?_) (fun h1 => ?_)
 ·refine run_skip <| run_seq <| run_block <| run_seq <| run_seq <| run_region_join 25 (.bool (decide (X i < 0 ∨ (N : Int) ≤ X i))) [0, 1, 5] (fun hk3 => ?_) ?_
  ·refine rl_v rfl rfl rfl (ov_move rfl rfl) <| rl_v rfl rfl rfl (ov_move rfl rfl) <| rl_v rfl rfl rfl (ov_index1 rfl Try.underlying23 (by kernel_rfl) rfl rfl ⟨by omega, by omega⟩ (by exact hga (by omega))) ?_
   refine rl_v rfl rfl rfl (ov_load rfl Try.underlying3 rfl rfl (by exact hrow _ hO.below _ (by omega) (by omega))) ?_
   refine rl_v rfl rfl rfl (ov_lss rfl rfl rfl) <| rl_v rfl rfl rfl (ov_move rfl rfl) ?_
   first | refine rl_split_dec 18 rfl (fun hg4 => ?_) (fun hg4 => ?_) | refine rl_split 18 rfl (fun hg4 => ?_) (fun hg4 => ?_)
   ·refine rl_gskip rfl rfl rfl rfl rfl rfl <| rl_gskip rfl rfl rfl rfl rfl rfl <| rl_gskip rfl rfl rfl rfl rfl rfl <| rl_gskip rfl rfl rfl rfl rfl rfl <| rl_gskip rfl rfl rfl rfl rfl rfl <| rl_gskip rfl rfl rfl rfl rfl rfl <| rl_v rfl rfl rfl (ov_pick_t rfl rfl rfl) ?_
    refine rl_nil (hk3 _ (jbt rfl (by omega)) (And.intro rfl (And.intro rfl (And.intro rfl trivial))))
   ·refine rl_gv rfl rfl rfl rfl rfl (ov_move rfl rfl) <| rl_gv rfl rfl rfl rfl rfl (ov_move rfl rfl) <| rl_gv rfl rfl rfl rfl rfl (ov_index1 rfl Try.underlying23 (by kernel_rfl) rfl rfl ⟨by omega, by omega⟩ (by exact hga (by omega))) ?_
    refine rl_gv rfl rfl rfl rfl rfl (ov_load rfl Try.underlying3 rfl rfl (by exact hrow _ hO.below _ (by omega) (by omega))) ?_
    refine rl_gv rfl rfl rfl rfl rfl (ov_move rfl rfl) <| rl_gv rfl rfl rfl rfl rfl (ov_geq rfl rfl rfl) <| rl_v rfl rfl rfl (ov_pick_f rfl rfl rfl) ?_
    refine rl_nil (hk3 _ (jbd rfl (by omega)) (And.intro rfl (And.intro rfl (And.intro rfl trivial))))
  ·show Run _ _ _ _ [(25, _), (0, _), (1, _), (5, _)] _ _
   first | refine run_cond_dec rfl (fun h2 => ?_) (fun h2 => ?_) | refine run_cond rfl (fun h2 => ?_) (fun h2 => ?_)
   ·refine run_seq <| run_region <| rl_v rfl rfl rfl (ov_assign rfl rfl) <| rl_nil <| run_ret Try.func60 (res1 Try.results60 rfl) ?_
    exact ⟨⟨false, rfl, ⟨fun h => Bool.noConfusion h, fun h => by have := h.1 i hi0 h1; omega⟩⟩, hO.below⟩
   ·refine run_skip <| run_seq <| run_region <| rl_v rfl rfl rfl (ov_assign rfl rfl) <| rl_nil <| run_block <| Run.keep [0, 1, 5, 6] (F' := [(0, _), (1, _), (5, _), (6, _)]) rfl <| run_loop1 (fun (k : Int) => [(6, .int .i64 k)]) [0, 1, 5] (fun (k : Int) (w5 : World) => 0 ≤ k ∧ k ≤ i ∧ (∀ a : Int, 0 ≤ a → a < k → X a ≠ X i) ∧ Own w.heap.size w w5 []) (fun (k : Int) => (i - k).toNat) (0) ?_ (And.intro (by exact slot_int rfl (by first | omega)) (And.intro rfl (And.intro rfl (And.intro rfl trivial)))) ?_
    ·exact ⟨by omega, by omega, fun a a0 a1 => by omega, hO⟩
    intro k w5 hIw5 ih6
    obtain ⟨hk0, hk1, hd2, hO⟩ := hIw5
    show Run _ _ _ _ [(6, _), (0, _), (1, _), (5, _)] _ _
    refine run_seq <| run_seq <| run_region <| rl_v rfl rfl rfl (ov_move rfl rfl) <| rl_v rfl rfl rfl (ov_move rfl rfl) <| rl_v rfl rfl rfl (ov_lss rfl rfl rfl) <| rl_nil ?_
    first | refine run_cond_dec rfl (fun h3 => ?_) (fun h3 => ?_) | refine run_cond rfl (fun h3 => ?_) (fun h3 => ?_)
    ·refine run_skip <| run_seq <| run_block <| run_seq <| run_quiet mixed (by kernel_rfl) ?_
     refine rq_v rfl rfl rfl (fun _ => ov_move rfl rfl) ?_
     refine rq_v rfl rfl rfl (fun _ => ov_move rfl rfl) ?_
     refine rq_v rfl rfl rfl (fun _ => ov_index1 rfl Try.underlying23 (by kernel_rfl) rfl rfl ⟨by omega, by omega⟩ (by exact hga (by omega))) ?_
     refine rq_v rfl rfl rfl (fun _ => ov_load rfl Try.underlying3 rfl rfl (by show World.cell? w5 _ = _; first | exact hrow _ hO.below _ (by omega) (by omega) | exact hO.cellI 0 rfl _ (by omega) (by omega) | exact hO.cellL 0 rfl rfl | exact hO.cellI 1 rfl _ (by omega) (by omega) | exact hO.cellL 1 rfl rfl | exact hO.cellI 2 rfl _ (by omega) (by omega) | exact hO.cellL 2 rfl rfl | exact hO.cellI 3 rfl _ (by omega) (by omega) | exact hO.cellL 3 rfl rfl | exact hO.cellI 4 rfl _ (by omega) (by omega) | exact hO.cellL 4 rfl rfl | exact hO.cellI 5 rfl _ (by omega) (by omega) | exact hO.cellL 5 rfl rfl)) ?_
     refine rq_v rfl rfl rfl (fun _ => ov_move rfl rfl) ?_
     refine rq_v rfl rfl rfl (fun _ => ov_move rfl rfl) ?_
     refine rq_v rfl rfl rfl (fun _ => ov_index1 rfl Try.underlying23 (by kernel_rfl) rfl rfl ⟨by omega, by omega⟩ (by exact hga (by omega))) ?_
     refine rq_v rfl rfl rfl (fun _ => ov_load rfl Try.underlying3 rfl rfl (by show World.cell? w5 _ = _; first | exact hrow _ hO.below _ (by omega) (by omega) | exact hO.cellI 0 rfl _ (by omega) (by omega) | exact hO.cellL 0 rfl rfl | exact hO.cellI 1 rfl _ (by omega) (by omega) | exact hO.cellL 1 rfl rfl | exact hO.cellI 2 rfl _ (by omega) (by omega) | exact hO.cellL 2 rfl rfl | exact hO.cellI 3 rfl _ (by omega) (by omega) | exact hO.cellL 3 rfl rfl | exact hO.cellI 4 rfl _ (by omega) (by omega) | exact hO.cellL 4 rfl rfl | exact hO.cellI 5 rfl _ (by omega) (by omega) | exact hO.cellL 5 rfl rfl)) ?_
     refine rq_v rfl rfl rfl (fun _ => ov_eql rfl rfl rfl) ?_
     refine rq_nil (fun n7 => ?_)
     have hO9 := hO.drewN n7
     generalize World.drewN w5 n7 = w8 at hO9 ⊢
     first | refine run_cond_dec rfl (fun h4 => ?_) (fun h4 => ?_) | refine run_cond rfl (fun h4 => ?_) (fun h4 => ?_)
     ·refine run_seq <| run_region <| rl_v rfl rfl rfl (ov_assign rfl rfl) <| rl_nil <| run_ret Try.func60 (res1 Try.results60 rfl) ?_
      exact ⟨⟨false, rfl, ⟨fun h => Bool.noConfusion h, fun h => by have := h.2 k i hk0 (by omega) hi0 h1 h4; omega⟩⟩, hO9.below⟩
     ·refine run_skip <| run_inBlock <| run_region <| rl_v rfl rfl rfl (ov_move rfl rfl) <| rl_v rfl rfl rfl (ov_add rfl rfl rfl (by omega)) ?_
      refine rl_v rfl rfl rfl (ov_assign rfl rfl) <| rl_nil ?_
      refine Run.use (ih6 (k + 1) _ ?_ ?_) (And.intro (by exact slot_int rfl (by first | omega)) (And.intro rfl (And.intro rfl (And.intro rfl trivial))))
      ·first | omega | (dsimp only; omega)
      ·exact ⟨by omega, by omega, fun a a0 a1 => by by_cases e : a = k; (rw [e]; exact h4); (exact hd2 a a0 (by omega)), hO9⟩
    ·refine run_exit rfl <| run_inBlock <| run_region <| rl_v rfl rfl rfl (ov_move rfl rfl) <| rl_v rfl rfl rfl (ov_add rfl rfl rfl (by omega)) ?_
     refine rl_v rfl rfl rfl (ov_assign rfl rfl) <| rl_nil ?_
     refine Run.use (ih2 (i + 1) _ ?_ ?_) (And.intro (by exact slot_int rfl (by first | omega)) (And.intro rfl (And.intro rfl trivial)))
     ·first | omega | (dsimp only; omega)
     ·exact ⟨by omega, by omega, fun k k0 k1 => by by_cases e : k = i; (rw [e]; omega); (exact hr k k0 (by omega)), fun a b a0 a1 b1 => by by_cases e : b = i; (rw [e]; exact hd2 a a0 (by omega)); (exact hd a b a0 a1 (by omega)), hO⟩
 ·obtain rfl : i = n := by omega
  refine run_exit rfl <| run_seq <| run_region <| rl_v rfl rfl rfl (ov_assign rfl rfl) <| rl_nil <| run_ret Try.func60 (res1 Try.results60 rfl) ?_
  exact ⟨⟨true, rfl, ⟨fun _ => ⟨hr, fun a b a0 a1 b0 b1 e => by rcases Int.lt_trichotomy a b with h | h | h; (exact absurd e (hd a b a0 h b1)); (exact h); (exact absurd e.symm (hd b a b0 h a1))⟩, fun _ => rfl⟩⟩, hO.below⟩
def lik5 (L : Int → Nat) (E : Int → Int → Int) (i k : Int) : Int := if k = i then rk (E i) (L i) i else if rk (E i) (L i) k < rk (E i) (L i) i then rk (E i) (L i) k else L i + 1
theorem refLikes_any (ga : Option Addr) (n gc : Nat) (L : Int → Nat) (E : Int → Int → Int) (i k : Int) (w : World) (hL : ∀ r : Int, 0 ≤ r → r < n → L r ≤ 1000000) (h : ITab w.heap.size w ga n L (fun r c => iv (E r c))) (i0 : 0 ≤ i) (i1 : i < n) :
  Calls Try.prog 33 #[.agg #[.slice ga n gc], iv i, iv k] w fun e w' => e = .returned (iv (lik5 L E i k)) ∧ Below w.heap.size w w' := by
 obtain ⟨A, C, RB, RO, gb, go, hga, hrow, hra, hel, hcan⟩ := h.open
 have hLi := hL i i0 i1
 refine calls_of_run (F := [(0, _), (1, _), (2, _)]) Try.func33 rfl Try.ntmps33 rfl rfl ?_
 have hO0 := Own.init w
 refine run_seq <| run_region <| rl_ow rfl (ow_box _ rfl rfl rfl rfl rfl hO0) ?_
 rintro _ w1 ⟨b1, rfl, hO2, hs3⟩
 refine rl_v rfl rfl rfl (ov_assign rfl rfl) <| rl_nil <| run_seq <| run_region <| rl_v rfl rfl rfl (ov_fieldS rfl Try.underlying47 rfl (fo := 0) rfl (by kernel_rfl) rfl) ?_
 refine rl_v rfl rfl rfl (ov_load rfl Try.underlying22 rfl rfl (by exact hO2.cellL 0 rfl (off := 0) rfl)) ?_
 refine rl_v rfl rfl rfl (ov_move rfl rfl) <| rl_v rfl rfl rfl (ov_index1 rfl Try.underlying22 (by kernel_rfl) rfl rfl ⟨by omega, by omega⟩ (by exact hga (by omega))) ?_
 refine rl_v rfl rfl rfl (ov_load rfl Try.underlying23 rfl rfl (by exact hrow _ hO2.below _ (by omega) (by omega))) ?_
 refine rl_v rfl rfl rfl (ov_assign rfl rfl) <| rl_nil <| run_seq <| run_region <| rl_v rfl rfl rfl (ov_move rfl rfl) <| rl_v rfl rfl rfl (ov_move rfl rfl) ?_
 refine rl_call callable_19 rfl rfl rfl rfl rfl rfl (rank5_any (A i) (L i) (C i) (E i) i _ hLi (hO2.iatF (hcan i i0 i1))) (fun e4 w5 hp6 => ?_)
 obtain ⟨rfl, hb⟩ := hp6
 refine ⟨_, rfl, ?_⟩
 have hO7 := hO2.past hb
 refine rl_v rfl rfl rfl (ov_assign rfl rfl) <| rl_nil <| run_seq <| run_seq <| run_region <| rl_v rfl rfl rfl (ov_move rfl rfl) <| rl_v rfl rfl rfl (ov_move rfl rfl) <| rl_v rfl rfl rfl (ov_eql rfl rfl rfl) <| rl_nil ?_
 first | refine run_cond_dec rfl (fun h1 => ?_) (fun h1 => ?_) | refine run_cond rfl (fun h1 => ?_) (fun h1 => ?_)
 ·refine run_seq <| run_region <| rl_v rfl rfl rfl (ov_move rfl rfl) <| rl_v rfl rfl rfl (ov_assign rfl rfl) <| rl_nil <| run_ret Try.func33 (res1 Try.results33 rfl) ?_
  exact ⟨by unfold lik5; rw [if_pos h1], hO7.tail.below⟩
 ·refine run_skip <| run_seq <| run_seq <| run_region <| rl_v rfl rfl rfl (ov_move rfl rfl) <| rl_v rfl rfl rfl (ov_move rfl rfl) ?_
  refine rl_call callable_19 rfl rfl rfl rfl rfl rfl (rank5_any (A i) (L i) (C i) (E i) k _ hLi (hO7.iatF (hcan i i0 i1))) (fun e8 w9 hp10 => ?_)
  obtain ⟨rfl, hb⟩ := hp10
  refine ⟨_, rfl, ?_⟩
  have hO11 := hO7.past hb
  refine rl_v rfl rfl rfl (ov_assign rfl rfl) <| rl_nil <| run_seq <| run_region <| rl_v rfl rfl rfl (ov_move rfl rfl) <| rl_v rfl rfl rfl (ov_move rfl rfl) <| rl_v rfl rfl rfl (ov_lss rfl rfl rfl) <| rl_nil ?_
  first | refine run_cond_dec rfl (fun h2 => ?_) (fun h2 => ?_) | refine run_cond rfl (fun h2 => ?_) (fun h2 => ?_)
  ·refine run_seq <| run_region <| rl_v rfl rfl rfl (ov_move rfl rfl) <| rl_v rfl rfl rfl (ov_assign rfl rfl) <| rl_nil <| run_ret Try.func33 (res1 Try.results33 rfl) ?_
   exact ⟨by unfold lik5; rw [if_neg h1, if_pos h2], hO11.tail.below⟩
  ·refine run_skip <| run_seq <| run_region <| rl_v rfl rfl rfl (ov_move rfl rfl) <| rl_v rfl rfl rfl (ov_len rfl Try.underlying23 rfl) <| rl_v rfl rfl rfl (ov_add rfl rfl rfl (by omega)) ?_
   refine rl_v rfl rfl rfl (ov_assign rfl rfl) <| rl_nil <| run_ret Try.func33 (res1 Try.results33 rfl) ?_
   exact ⟨by unfold lik5; rw [if_neg h1, if_neg h2], hO11.tail.below⟩
theorem swap5_any (ga : Option Addr) (n gc : Nat) (w : World) : Calls Try.prog 25 #[.agg #[.slice ga n gc]] w fun e w' => e = .returned (.agg #[.slice ga n gc]) ∧ Below w.heap.size w w' := by
 refine calls_of_run (F := [(0, _)]) Try.func25 rfl Try.ntmps25 rfl rfl ?_
 have hO0 := Own.init w
 refine run_seq <| run_region <| rl_ow rfl (ow_box _ rfl rfl rfl rfl rfl hO0) ?_
 rintro _ w1 ⟨b1, rfl, hO2, hs3⟩
 refine rl_ow rfl (ow_alloc _ rfl rfl rfl zero_49 rfl hO2) ?_
 rintro _ w4 ⟨b2, rfl, hO5, hs6⟩
 refine rl_nil <| run_seq <| run_region <| rl_v rfl rfl rfl (ov_fieldS rfl Try.underlying47 rfl (fo := 0) rfl (by kernel_rfl) rfl) ?_
 refine rl_v rfl rfl rfl (ov_load rfl Try.underlying22 rfl rfl (by exact hO5.cellL 1 rfl (off := 0) rfl)) ?_
 refine rl_v rfl rfl rfl (ov_buildL rfl lay_49 rfl (us := [_]) rfl) <| rl_ow rfl (ow_storeW rfl rfl (by kernel_rfl) hO5 0 rfl rfl (by rfl) rfl (by rfl)) ?_
 rintro _ w7 ⟨rfl, hO8, hs9⟩
 refine rl_nil <| run_ret Try.func25 (resW Try.results25 rfl Try.underlying49 rfl (by kernel_rfl) hO8 0 rfl) ?_
 exact ⟨rfl, hO8.below⟩
structure SOwn (n : Nat) (L : Int → Nat) (E : Int → Int → Int) (ga : Option Addr) (gc : Nat) (H : List (Option Blk)) : Prop where
 g : OTab (.slice ga n gc) 23 3 n L (fun r c => iv (E r c)) H
 ok : SwapOk n L E
 len : ∀ r : Int, 0 ≤ r → r < n → L r ≤ 12
end Go.Proofs.Ytlldeifbfpmbaaa
