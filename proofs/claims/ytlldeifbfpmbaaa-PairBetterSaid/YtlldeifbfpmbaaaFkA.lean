import Derived.Test.YtlldeifbfpmbaaaFcH
import Derived.Test.YtlldeifbfpmbaaaFiA
import Derived.Test.YtlldeifbfpmbaaaFjA
set_option maxRecDepth 100000
namespace Go.Proofs.Ytlldeifbfpmbaaa
open Go.RowKit Go.Proofs Go.MapKept
theorem refRight_any (ao : Option Addr) (n c : Nat) (N : Nat) (X : Int → Int) (w : World) (hn : n ≤ 1000000) (h : IAt w.heap.size w ao n (fun i => iv (X i))) :
  Calls Try.prog 60 #[.slice ao n c, iv N] w fun e w' => (∃ b, e = .returned (.bool b) ∧ (b = true ↔ IsL n X N)) ∧ Below w.heap.size w w' := by
 obtain ⟨gb, go, hga, hrow⟩ := h.open
 refine calls_of_run (F := [(0, _), (1, _)]) Try.func60 rfl Try.ntmps60 rfl rfl ?_
 have hO0 := Own.init w
 refine run_seq <| run_region <| rl_v rfl rfl rfl (ov_assign rfl rfl) <| rl_nil <| run_seq <| run_seq <| run_region <| rl_v rfl rfl rfl (ov_assign rfl rfl) <| rl_nil <| run_block <| Run.keep [0, 1, 5] (F' := [(0, _), (1, _), (5, _)]) rfl <| run_loop1 (fun (i : Int) => [(5, .int .i64 i)]) [0, 1] (fun (i : Int) (w1 : World) => 0 ≤ i ∧ i ≤ n ∧ (∀ k : Int, 0 ≤ k → k < i → 0 ≤ X k ∧ X k < N) ∧ (∀ a b : Int, 0 ≤ a → a < b → b < i → X a ≠ X b) ∧ Own w.heap.size w w1 []) (fun (i : Int) => ((n : Int) - i).toNat) (0) ?_ (And.intro (by exact slot_int rfl (by first | omega)) (And.intro rfl (And.intro rfl trivial))) ?_
 ·exact ⟨by omega, by omega, fun k k0 k1 => by omega, fun a b a0 a1 b1 => by omega, hO0⟩
 intro i w1 hIw1 ih2
 obtain ⟨hi0, hi1, hr, hd, hO⟩ := hIw1
 show Run _ _ _ _ [(5, _), (0, _), (1, _)] _ _
 refine run_seq <| run_seq <| run_region <| rl_v rfl rfl rfl (ov_move rfl rfl) <| rl_v rfl rfl rfl (ov_move rfl rfl) <| rl_v rfl rfl rfl (ov_len rfl Try.underlying23 rfl) <| rl_v rfl rfl rfl (ov_lss rfl rfl rfl) <| rl_nil ?_
 first | refine run_cond_dec rfl (fun h1 => ?_) (fun h1 => ?_) | refine run_cond rfl (fun h1 => ?_) (fun h1 => ?_)
 ·refine run_skip <| run_seq <| run_block <| run_seq <| run_seq <| run_region_join 25 (.bool (decide (X i < 0 ∨ (N : Int) ≤ X i))) [0, 1, 5] (fun hk3 => ?_) ?_
  ·refine rl_v rfl rfl rfl (ov_move rfl rfl) <| rl_v rfl rfl rfl (ov_move rfl rfl) <| rl_v rfl rfl rfl (ov_index1 rfl Try.underlying23 (by kernel_rfl) rfl rfl ⟨by omega, by omega⟩ (by exact hga (by omega))) ?_
   refine rl_v rfl rfl rfl (ov_load rfl Try.underlying3 rfl rfl (by exact hrow _ hO.below _ (by omega) (by omega))) ?_
   refine rl_v rfl rfl rfl (ov_lss rfl rfl rfl) <| rl_v rfl rfl rfl (ov_move rfl rfl) ?_
   first | refine rl_split_dec 18 rfl (fun hg4 => ?_) (fun hg4 => ?_) | refine rl_split 18 rfl (fun hg4 => ?_) (fun hg4 => ?_)
   ·refine rl_gskip rfl rfl rfl rfl rfl rfl <| rl_gskip rfl rfl rfl rfl rfl rfl <| rl_gskip rfl rfl rfl rfl rfl rfl <| rl_gskip rfl rfl rfl rfl rfl rfl <| rl_gskip rfl rfl rfl rfl rfl rfl <| rl_gskip rfl rfl rfl rfl rfl rfl <| rl_v rfl rfl rfl (ov_pick_t rfl rfl rfl) ?_
    refine rl_nil (hk3 _ (jbt rfl (by omega)) (And.intro rfl (And.intro rfl (And.intro rfl trivial))))
   ·refine rl_gv rfl rfl rfl rfl rfl (ov_move rfl rfl) <| rl_gv rfl rfl rfl rfl rfl (ov_move rfl rfl) <| rl_gv rfl rfl rfl rfl rfl (ov_index1 rfl Try.underlying23 (by kernel_rfl) rfl rfl ⟨by omega, by omega⟩ (by exact hga (by omega))) ?_
    refine rl_gv rfl rfl rfl rfl rfl (ov_load rfl Try.underlying3 rfl rfl (by exact hrow _ hO.below _ (by omega) (by omega))) ?_
    refine rl_gv rfl rfl rfl rfl rfl (ov_move rfl rfl) <| rl_gv rfl rfl rfl rfl rfl (ov_geq rfl rfl rfl) <| rl_v rfl rfl rfl (ov_pick_f rfl rfl rfl) ?_
    refine rl_nil (hk3 _ (jbd rfl (by omega)) (And.intro rfl (And.intro rfl (And.intro rfl trivial))))
  ·show Run _ _ _ _ [(25, _), (0, _), (1, _), (5, _)] _ _
   first | refine run_cond_dec rfl (fun h2 => ?_) (fun h2 => ?_) | refine run_cond rfl (fun h2 => ?_) (fun h2 => ?_)
   ·refine run_seq <| run_region <| rl_v rfl rfl rfl (ov_assign rfl rfl) <| rl_nil <| run_ret Try.func60 (res1 Try.results60 rfl) ?_
    exact ⟨⟨false, rfl, ⟨fun h => Bool.noConfusion h, fun h => by have := h.1 i hi0 h1; omega⟩⟩, hO.below⟩
   ·refine run_skip <| run_seq <| run_region <| rl_v rfl rfl rfl (ov_assign rfl rfl) <| rl_nil <| run_block <| Run.keep [0, 1, 5, 6] (F' := [(0, _), (1, _), (5, _), (6, _)]) rfl <| run_loop1 (fun (k : Int) => [(6, .int .i64 k)]) [0, 1, 5] (fun (k : Int) (w5 : World) => 0 ≤ k ∧ k ≤ i ∧ (∀ a : Int, 0 ≤ a → a < k → X a ≠ X i) ∧ Own w.heap.size w w5 []) (fun (k : Int) => (i - k).toNat) (0) ?_ (And.intro (by exact slot_int rfl (by first | omega)) (And.intro rfl (And.intro rfl (And.intro rfl trivial)))) ?_
    ·exact ⟨by omega, by omega, fun a a0 a1 => by omega, hO⟩
    intro k w5 hIw5 ih6
    obtain ⟨hk0, hk1, hd2, hO⟩ := hIw5
    show Run _ _ _ _ [(6, _), (0, _), (1, _), (5, _)] _ _
    refine run_seq <| run_seq <| run_region <| rl_v rfl rfl rfl (ov_move rfl rfl) <| rl_v rfl rfl rfl (ov_move rfl rfl) <| rl_v rfl rfl rfl (ov_lss rfl rfl rfl) <| rl_nil ?_
    first | refine run_cond_dec rfl (fun h3 => ?_) (fun h3 => ?_) | refine run_cond rfl (fun h3 => ?_) (fun h3 => ?_)
    ·refine run_skip <| run_seq <| run_block <| run_seq <| run_quiet mixed (by kernel_rfl) ?_
     refine rq_v rfl rfl rfl (fun _ => ov_move rfl rfl) ?_
     refine rq_v rfl rfl rfl (fun _ => ov_move rfl rfl) ?_
     refine rq_v rfl rfl rfl (fun _ => ov_index1 rfl Try.underlying23 (by kernel_rfl) rfl rfl ⟨by omega, by omega⟩ (by exact hga (by omega))) ?_
     refine rq_v rfl rfl rfl (fun _ => ov_load rfl Try.underlying3 rfl rfl (by show World.cell? w5 _ = _; first | exact hrow _ hO.below _ (by omega) (by omega) | exact hO.cellI 0 rfl _ (by omega) (by omega) | exact hO.cellL 0 rfl rfl | exact hO.cellI 1 rfl _ (by omega) (by omega) | exact hO.cellL 1 rfl rfl | exact hO.cellI 2 rfl _ (by omega) (by omega) | exact hO.cellL 2 rfl rfl | exact hO.cellI 3 rfl _ (by omega) (by omega) | exact hO.cellL 3 rfl rfl | exact hO.cellI 4 rfl _ (by omega) (by omega) | exact hO.cellL 4 rfl rfl | exact hO.cellI 5 rfl _ (by omega) (by omega) | exact hO.cellL 5 rfl rfl)) ?_
     refine rq_v rfl rfl rfl (fun _ => ov_move rfl rfl) ?_
     refine rq_v rfl rfl rfl (fun _ => ov_move rfl rfl) ?_
     refine rq_v rfl rfl rfl (fun _ => ov_index1 rfl Try.underlying23 (by kernel_rfl) rfl rfl ⟨by omega, by omega⟩ (by exact hga (by omega))) ?_
     refine rq_v rfl rfl rfl (fun _ => ov_load rfl Try.underlying3 rfl rfl (by show World.cell? w5 _ = _; first | exact hrow _ hO.below _ (by omega) (by omega) | exact hO.cellI 0 rfl _ (by omega) (by omega) | exact hO.cellL 0 rfl rfl | exact hO.cellI 1 rfl _ (by omega) (by omega) | exact hO.cellL 1 rfl rfl | exact hO.cellI 2 rfl _ (by omega) (by omega) | exact hO.cellL 2 rfl rfl | exact hO.cellI 3 rfl _ (by omega) (by omega) | exact hO.cellL 3 rfl rfl | exact hO.cellI 4 rfl _ (by omega) (by omega) | exact hO.cellL 4 rfl rfl | exact hO.cellI 5 rfl _ (by omega) (by omega) | exact hO.cellL 5 rfl rfl)) ?_
     refine rq_v rfl rfl rfl (fun _ => ov_eql rfl rfl rfl) ?_
     refine rq_nil (fun n7 => ?_)
     have hO9 := hO.drewN n7
     generalize World.drewN w5 n7 = w8 at hO9 ⊢
     first | refine run_cond_dec rfl (fun h4 => ?_) (fun h4 => ?_) | refine run_cond rfl (fun h4 => ?_) (fun h4 => ?_)
     ·refine run_seq <| run_region <| rl_v rfl rfl rfl (ov_assign rfl rfl) <| rl_nil <| run_ret Try.func60 (res1 Try.results60 rfl) ?_
      exact ⟨⟨false, rfl, ⟨fun h => Bool.noConfusion h, fun h => by have := h.2 k i hk0 (by omega) hi0 h1 h4; omega⟩⟩, hO9.below⟩
     ·refine run_skip <| run_inBlock <| run_region <| rl_v rfl rfl rfl (ov_move rfl rfl) <| rl_v rfl rfl rfl (ov_add rfl rfl rfl (by omega)) ?_
      refine rl_v rfl rfl rfl (ov_assign rfl rfl) <| rl_nil ?_
      refine Run.use (ih6 (k + 1) _ ?_ ?_) (And.intro (by exact slot_int rfl (by first | omega)) (And.intro rfl (And.intro rfl (And.intro rfl trivial))))
      ·first | omega | (dsimp only; omega)
      ·exact ⟨by omega, by omega, fun a a0 a1 => by by_cases e : a = k; (rw [e]; exact h4); (exact hd2 a a0 (by omega)), hO9⟩
    ·refine run_exit rfl <| run_inBlock <| run_region <| rl_v rfl rfl rfl (ov_move rfl rfl) <| rl_v rfl rfl rfl (ov_add rfl rfl rfl (by omega)) ?_
     refine rl_v rfl rfl rfl (ov_assign rfl rfl) <| rl_nil ?_
     refine Run.use (ih2 (i + 1) _ ?_ ?_) (And.intro (by exact slot_int rfl (by first | omega)) (And.intro rfl (And.intro rfl trivial)))
     ·first | omega | (dsimp only; omega)
     ·exact ⟨by omega, by omega, fun k k0 k1 => by by_cases e : k = i; (rw [e]; omega); (exact hr k k0 (by omega)), fun a b a0 a1 b1 => by by_cases e : b = i; (rw [e]; exact hd2 a a0 (by omega)); (exact hd a b a0 a1 (by omega)), hO⟩
 ·obtain rfl : i = n := by omega
  refine run_exit rfl <| run_seq <| run_region <| rl_v rfl rfl rfl (ov_assign rfl rfl) <| rl_nil <| run_ret Try.func60 (res1 Try.results60 rfl) ?_
  exact ⟨⟨true, rfl, ⟨fun _ => ⟨hr, fun a b a0 a1 b0 b1 e => by rcases Int.lt_trichotomy a b with h | h | h; (exact absurd e (hd a b a0 h b1)); (exact h); (exact absurd e.symm (hd b a b0 h a1))⟩, fun _ => rfl⟩⟩, hO.below⟩
def lik5 (L : Int → Nat) (E : Int → Int → Int) (i k : Int) : Int := if k = i then rk (E i) (L i) i else if rk (E i) (L i) k < rk (E i) (L i) i then rk (E i) (L i) k else L i + 1
theorem refLikes_any (ga : Option Addr) (n gc : Nat) (L : Int → Nat) (E : Int → Int → Int) (i k : Int) (w : World) (hL : ∀ r : Int, 0 ≤ r → r < n → L r ≤ 1000000) (h : ITab w.heap.size w ga n L (fun r c => iv (E r c))) (i0 : 0 ≤ i) (i1 : i < n) :
  Calls Try.prog 33 #[.agg #[.slice ga n gc], iv i, iv k] w fun e w' => e = .returned (iv (lik5 L E i k)) ∧ Below w.heap.size w w' := by
 obtain ⟨A, C, RB, RO, gb, go, hga, hrow, hra, hel, hcan⟩ := h.open
 have hLi := hL i i0 i1
 refine calls_of_run (F := [(0, _), (1, _), (2, _)]) Try.func33 rfl Try.ntmps33 rfl rfl ?_
 have hO0 := Own.init w
 refine run_seq <| run_region <| rl_ow rfl (ow_box _ rfl rfl rfl rfl rfl hO0) ?_
 rintro _ w1 ⟨b1, rfl, hO2, hs3⟩
 refine rl_v rfl rfl rfl (ov_assign rfl rfl) <| rl_nil <| run_seq <| run_region <| rl_v rfl rfl rfl (ov_fieldS rfl Try.underlying47 rfl (fo := 0) rfl (by kernel_rfl) rfl) ?_
 refine rl_v rfl rfl rfl (ov_load rfl Try.underlying22 rfl rfl (by exact hO2.cellL 0 rfl (off := 0) rfl)) ?_
 refine rl_v rfl rfl rfl (ov_move rfl rfl) <| rl_v rfl rfl rfl (ov_index1 rfl Try.underlying22 (by kernel_rfl) rfl rfl ⟨by omega, by omega⟩ (by exact hga (by omega))) ?_
 refine rl_v rfl rfl rfl (ov_load rfl Try.underlying23 rfl rfl (by exact hrow _ hO2.below _ (by omega) (by omega))) ?_
 refine rl_v rfl rfl rfl (ov_assign rfl rfl) <| rl_nil <| run_seq <| run_region <| rl_v rfl rfl rfl (ov_move rfl rfl) <| rl_v rfl rfl rfl (ov_move rfl rfl) ?_
 refine rl_call callable_19 rfl rfl rfl rfl rfl rfl (rank5_any (A i) (L i) (C i) (E i) i _ hLi (hO2.iatF (hcan i i0 i1))) (fun e4 w5 hp6 => ?_)
 obtain ⟨rfl, hb⟩ := hp6
 refine ⟨_, rfl, ?_⟩
 have hO7 := hO2.past hb
 refine rl_v rfl rfl rfl (ov_assign rfl rfl) <| rl_nil <| run_seq <| run_seq <| run_region <| rl_v rfl rfl rfl (ov_move rfl rfl) <| rl_v rfl rfl rfl (ov_move rfl rfl) <| rl_v rfl rfl rfl (ov_eql rfl rfl rfl) <| rl_nil ?_
 first | refine run_cond_dec rfl (fun h1 => ?_) (fun h1 => ?_) | refine run_cond rfl (fun h1 => ?_) (fun h1 => ?_)
 ·refine run_seq <| run_region <| rl_v rfl rfl rfl (ov_move rfl rfl) <| rl_v rfl rfl rfl (ov_assign rfl rfl) <| rl_nil <| run_ret Try.func33 (res1 Try.results33 rfl) ?_
  exact ⟨by unfold lik5; rw [if_pos h1], hO7.tail.below⟩
 ·refine run_skip <| run_seq <| run_seq <| run_region <| rl_v rfl rfl rfl (ov_move rfl rfl) <| rl_v rfl rfl rfl (ov_move rfl rfl) ?_
  refine rl_call callable_19 rfl rfl rfl rfl rfl rfl (rank5_any (A i) (L i) (C i) (E i) k _ hLi (hO7.iatF (hcan i i0 i1))) (fun e8 w9 hp10 => ?_)
  obtain ⟨rfl, hb⟩ := hp10
  refine ⟨_, rfl, ?_⟩
  have hO11 := hO7.past hb
  refine rl_v rfl rfl rfl (ov_assign rfl rfl) <| rl_nil <| run_seq <| run_region <| rl_v rfl rfl rfl (ov_move rfl rfl) <| rl_v rfl rfl rfl (ov_move rfl rfl) <| rl_v rfl rfl rfl (ov_lss rfl rfl rfl) <| rl_nil ?_
  first | refine run_cond_dec rfl (fun h2 => ?_) (fun h2 => ?_) | refine run_cond rfl (fun h2 => ?_) (fun h2 => ?_)
  ·refine run_seq <| run_region <| rl_v rfl rfl rfl (ov_move rfl rfl) <| rl_v rfl rfl rfl (ov_assign rfl rfl) <| rl_nil <| run_ret Try.func33 (res1 Try.results33 rfl) ?_
   exact ⟨by unfold lik5; rw [if_neg h1, if_pos h2], hO11.tail.below⟩
  ·refine run_skip <| run_seq <| run_region <| rl_v rfl rfl rfl (ov_move rfl rfl) <| rl_v rfl rfl rfl (ov_len rfl Try.underlying23 rfl) <| rl_v rfl rfl rfl (ov_add rfl rfl rfl (by omega)) ?_
   refine rl_v rfl rfl rfl (ov_assign rfl rfl) <| rl_nil <| run_ret Try.func33 (res1 Try.results33 rfl) ?_
   exact ⟨by unfold lik5; rw [if_neg h1, if_neg h2], hO11.tail.below⟩
theorem swap5_any (ga : Option Addr) (n gc : Nat) (w : World) : Calls Try.prog 25 #[.agg #[.slice ga n gc]] w fun e w' => e = .returned (.agg #[.slice ga n gc]) ∧ Below w.heap.size w w' := by
 refine calls_of_run (F := [(0, _)]) Try.func25 rfl Try.ntmps25 rfl rfl ?_
 have hO0 := Own.init w
 refine run_seq <| run_region <| rl_ow rfl (ow_box _ rfl rfl rfl rfl rfl hO0) ?_
 rintro _ w1 ⟨b1, rfl, hO2, hs3⟩
 refine rl_ow rfl (ow_alloc _ rfl rfl rfl zero_49 rfl hO2) ?_
 rintro _ w4 ⟨b2, rfl, hO5, hs6⟩
 refine rl_nil <| run_seq <| run_region <| rl_v rfl rfl rfl (ov_fieldS rfl Try.underlying47 rfl (fo := 0) rfl (by kernel_rfl) rfl) ?_
 refine rl_v rfl rfl rfl (ov_load rfl Try.underlying22 rfl rfl (by exact hO5.cellL 1 rfl (off := 0) rfl)) ?_
 refine rl_v rfl rfl rfl (ov_buildL rfl lay_49 rfl (us := [_]) rfl) <| rl_ow rfl (ow_storeW rfl rfl (by kernel_rfl) hO5 0 rfl rfl (by rfl) rfl (by rfl)) ?_
 rintro _ w7 ⟨rfl, hO8, hs9⟩
 refine rl_nil <| run_ret Try.func25 (resW Try.results25 rfl Try.underlying49 rfl (by kernel_rfl) hO8 0 rfl) ?_
 exact ⟨rfl, hO8.below⟩
structure SOwn (n : Nat) (L : Int → Nat) (E : Int → Int → Int) (ga : Option Addr) (gc : Nat) (H : List (Option Blk)) : Prop where
 g : OTab (.slice ga n gc) 23 3 n L (fun r c => iv (E r c)) H
 ok : SwapOk n L E
 len : ∀ r : Int, 0 ≤ r → r < n → L r ≤ 12
set_option maxHeartbeats 2000000 in
theorem tidySwap_any (ga : Option Addr) (n gc M : Nat) (GL : Int → Nat) (GE : Int → Int → Int) (w : World) (hM : M ≤ 64) (hG : RTab w.heap.size w ga n GL GE) :
  Calls Try.prog 24 #[.agg #[.slice ga n gc], iv M] w fun e w' => ∃ (n1 : Nat) (L : Int → Nat) (E : Int → Int → Int) (ga' : Option Addr) (gc' : Nat) (H : List (Option Blk)), e = .returned (.agg #[.slice ga' n1 gc']) ∧ n1 = min n M ∧ SOwn n1 L E ga' gc' H ∧ Own w.heap.size w w' H := by
 obtain ⟨n1, hn1⟩ : ∃ n1, n1 = min n M := ⟨_, rfl⟩
 refine calls_of_run (F := [(0, _), (1, _)]) Try.func24 rfl Try.ntmps24 rfl rfl ?_
 have hO0 := Own.init w
 refine run_seq <| run_region <| rl_ow rfl (ow_box _ rfl rfl rfl rfl rfl hO0) ?_
 rintro _ w1 ⟨b1, rfl, hO2, hs3⟩
 refine rl_ow rfl (ow_alloc _ rfl rfl rfl zero_47 rfl hO2) ?_
 rintro _ w4 ⟨b2, rfl, hO5, hs6⟩
 refine rl_nil <| run_seq <| run_region <| rl_v rfl rfl rfl (ov_fieldS rfl Try.underlying47 rfl (fo := 0) rfl (by kernel_rfl) rfl) ?_
 refine rl_v rfl rfl rfl (ov_load rfl Try.underlying22 rfl rfl (by exact hO5.cellL 1 rfl (off := 0) rfl)) ?_
 refine rl_v rfl rfl rfl (ov_move rfl rfl) ?_
 refine rl_call callable_34 rfl rfl rfl rfl rfl rfl (lists5_any ga n gc M 12 GL GE _ (by omega) (by omega) (hO5.rtab hG)) (fun e7 w8 hp9 => ?_)
 obtain ⟨ga1, gc1, Hg, rfl, hc1, hTg, hOw1⟩ := hp9
 refine ⟨_, rfl, ?_⟩
 have hO10 := hO5.join hOw1
 rw [← hn1] at hTg hc1 ⊢
 refine rl_v rfl rfl rfl (ov_buildL rfl lay_47 rfl (us := [_]) rfl) <| rl_ow rfl (ow_alloc _ rfl rfl rfl zero_47 rfl hO10) ?_
 rintro _ w11 ⟨b3, rfl, hO12, hs13⟩
 refine rl_ow rfl (ow_storeW rfl rfl (by kernel_rfl) hO12 0 rfl rfl (by rfl) rfl (by rfl)) ?_
 rintro _ w14 ⟨rfl, hO15, hs16⟩
 have hOa := hO15.nil_cons.swap
 refine rl_nil <| run_seq <| run_seq <| run_region <| rl_v rfl rfl rfl (ov_assign rfl rfl) <| rl_nil <| run_block <| Run.keep [4, 5, 6] (F' := [(4, _), (5, _), (6, _)]) rfl <| run_loop1 (fun (q1 : Nat) => [(6, .int .i64 (q1 : Int))]) [4, 5] (fun (q1 : Nat) (w17 : World) => q1 ≤ n1 ∧ ∃ (L1 : Int → Nat) (E1 : Int → Int → Int) (Hg : List (Option Blk)), OTab (.slice ga1 n1 gc1) 23 3 n1 L1 (fun r c => iv (E1 r c)) Hg ∧ TdL q1 n1 n1 L1 E1 ∧ Own w.heap.size w w17 (some (lch b3 47 [.slice ga1 n1 gc1]) :: none :: (Hg ++ [some (lch b2 47 [.slice none 0 0]), some (lch b1 47 [.slice ga n gc])]))) (fun (q1 : Nat) => n1 - q1) (0) ?_ (And.intro (by exact slot_int rfl (by first | omega)) (And.intro rfl (And.intro rfl trivial))) ?_
 ·exact ⟨Nat.zero_le _, _, _, Hg, hTg, ⟨fun r _ _ => Nat.min_le_right _ _, fun r r0 r1 => by omega⟩, hOa⟩
 intro q1 w17 hIw17 ih18
 obtain ⟨hq1, L1, E1, Hg, hTg, hTd, hO1⟩ := hIw17
 show Run _ _ _ _ [(6, _), (4, _), (5, _)] _ _
 refine run_seq <| run_seq <| run_region <| rl_v rfl rfl rfl (ov_move rfl rfl) <| rl_v rfl rfl rfl (ov_fieldS rfl Try.underlying47 rfl (fo := 0) rfl (by kernel_rfl) rfl) ?_
 refine rl_v rfl rfl rfl (ov_load rfl Try.underlying22 rfl rfl (by exact hO1.cellL 0 rfl (off := 0) rfl)) ?_
 refine rl_v rfl rfl rfl (ov_len rfl Try.underlying22 rfl) <| rl_v rfl rfl rfl (ov_lss rfl rfl rfl) <| rl_nil ?_
 first | refine run_cond_dec rfl (fun c1 => ?_) (fun c1 => ?_) | refine run_cond rfl (fun c1 => ?_) (fun c1 => ?_)
 ·have hq1' : q1 < n1 := by omega
  obtain ⟨co, rv, ch, hv, h3, hOt⟩ := tab_take hTg hO1 q1 hq1'
  obtain ⟨gb, hgb⟩ := hv.addr
  have hgb' := hgb (by omega)
  have h3q := h3 q1 hq1'
  obtain ⟨ra, rc, erv⟩ := Row.val h3q
  rw [erv] at h3q
  refine run_skip <| run_seq <| run_block <| run_late (fun w' => Own w.heap.size w w' (some (lch b3 47 [.slice ga1 n1 gc1]) :: none :: ch q1 :: co :: (((List.range n1).erase q1).map ch ++ [some (lch b2 47 [.slice none 0 0]), some (lch b1 47 [.slice ga n gc])]))) 13 mixed ?_
  have hO20 := hOt.drew
  generalize World.drew w17 = w19 at hO20 ⊢
  have hS21 : Own w.heap.size w w19 (some (lch b3 47 [.slice ga1 n1 gc1]) :: none :: ch q1 :: co :: (((List.range n1).erase q1).map ch ++ [some (lch b2 47 [.slice none 0 0]), some (lch b1 47 [.slice ga n gc])])) := by first | exact hO20 | exact hO20.tail
  refine rhl_v 0 rfl (by kernel_rfl) rfl rfl rfl hS21 (fun _ hS => ov_fieldS rfl Try.underlying47 rfl (fo := 0) rfl (by kernel_rfl) rfl) ?_
  refine rhl_v 1 rfl (by kernel_rfl) rfl rfl rfl hS21 (fun _ hS => ov_load rfl Try.underlying22 rfl rfl (by exact hS.cellL 0 rfl (off := 0) rfl)) ?_
  refine rhl_v 2 rfl (by kernel_rfl) rfl rfl rfl hS21 (fun _ hS => ov_move rfl rfl) ?_
  refine rhl_v 3 rfl (by kernel_rfl) rfl rfl rfl hS21 (fun _ hS => ov_fieldS rfl Try.underlying47 rfl (fo := 0) rfl (by kernel_rfl) rfl) ?_
  refine rhl_v 4 rfl (by kernel_rfl) rfl rfl rfl hS21 (fun _ hS => ov_load rfl Try.underlying22 rfl rfl (by exact hS.cellL 0 rfl (off := 0) rfl)) ?_
  refine rhl_v 5 rfl (by kernel_rfl) rfl rfl rfl hS21 (fun _ hS => ov_move rfl rfl) ?_
  refine rhl_v 6 rfl (by kernel_rfl) rfl rfl rfl hS21 (fun _ hS => ov_index1 rfl Try.underlying22 (by kernel_rfl) rfl rfl ⟨by omega, by omega⟩ (by exact (id hgb'))) ?_
  refine rhl_v 7 rfl (by kernel_rfl) rfl rfl rfl hS21 (fun _ hS => ov_load rfl Try.underlying23 rfl rfl (by exact (IRow.cellA hv hS 3 rfl hgb' (i := q1) (by omega) (by omega)).trans (congrArg some erv))) ?_
  refine rhl_v 8 rfl (by kernel_rfl) rfl rfl rfl hS21 (fun _ hS => ov_fieldS rfl Try.underlying47 rfl (fo := 0) rfl (by kernel_rfl) rfl) ?_
  refine rhl_v 9 rfl (by kernel_rfl) rfl rfl rfl hS21 (fun _ hS => ov_load rfl Try.underlying22 rfl rfl (by exact hS.cellL 0 rfl (off := 0) rfl)) ?_
  refine rhl_v 10 rfl (by kernel_rfl) rfl rfl rfl hS21 (fun _ hS => ov_len rfl Try.underlying22 rfl) ?_
  refine rhl_any1 11 (by kernel_rfl) ?_
  refine rcl_op rfl rfl (ow_call2 callable_18 rfl rfl rfl rfl rfl (tidy5_any ra (L1 q1) rc n1 (E1 q1) _ (by have := hTd.len q1 (by omega) (by omega); omega) (by omega) (h3q.reads hO20 2 rfl)) (by intro e w' hp; obtain ⟨v5, k5, X5, c5, rfl, hk5, hX5, hr5, hO5⟩ := hp; exact ⟨_, rfl⟩)) ?_
  rintro _ w24 ⟨_, v22, he25, rfl, hp23⟩
  obtain ⟨v5, k5, X5, c5, rfl, hk5, hX5, hr5, hO5⟩ := hp23
  injection he25 with he25; subst he25
  have hO26 := hO20.join hO5
  have hS27 : Own w.heap.size w w24 (some (lch b3 47 [.slice ga1 n1 gc1]) :: none :: ch q1 :: co :: (((List.range n1).erase q1).map ch ++ [some (lch b2 47 [.slice none 0 0]), some (lch b1 47 [.slice ga n gc])])) := by first | exact hO26 | exact hO26.tail
  refine ⟨hS27, ?_⟩
  obtain ⟨a5, cp5, rfl⟩ := Row.val hr5
  refine rhl_v 12 rfl (by kernel_rfl) rfl rfl rfl hS27 (fun _ hS => ov_index1 rfl Try.underlying22 (by kernel_rfl) rfl rfl ⟨by omega, by omega⟩ (by exact (id hgb'))) ?_
  refine rhl_any1 13 (by kernel_rfl) ?_
  refine rcl_last rfl rfl (ow_storeI1 rfl rfl (by kernel_rfl) hO26 4 hv rfl hgb rfl ⟨by omega, by omega⟩ rfl rfl) ?_
  rintro _ w28 ⟨c9, rfl, hO29, hv9, hs30⟩
  obtain ⟨Hg2, hTg2, hO9⟩ := tab_put (L := L1) (F := fun r c => iv (E1 r c)) q1 hq1' hv9 h3 hr5 hO29
  refine rhl_done (by kernel_rfl) ?_
  refine run_inBlock <| run_region <| rl_v rfl rfl rfl (ov_move rfl rfl) <| rl_v rfl rfl rfl (ov_add rfl rfl rfl (by omega)) ?_
  refine rl_v rfl rfl rfl (ov_assign rfl rfl) <| rl_nil ?_
  refine Run.use (ih18 (q1 + 1) _ ?_ ?_) (And.intro (by exact slot_int rfl (by first | omega)) (And.intro rfl (And.intro rfl trivial)))
  ·first | omega | (dsimp only; omega)
  ·exact ⟨by omega, _, _, Hg2, hTg2.congr (fun r c _ _ _ _ => updE r c), hTd.step (by have := hTd.len q1 (by omega) (by omega); omega) hX5, hO9⟩
 ·obtain rfl : q1 = n1 := by omega
  have hOz := hO1.perm ((List.perm_middle (l₁ := some (lch b3 47 [.slice ga1 q1 gc1]) :: none :: Hg)))
  refine run_exit rfl <| run_seq <| run_region <| rl_v rfl rfl rfl (ov_loadW rfl Try.underlying47 rfl (by kernel_rfl) rfl hOz 1 rfl) ?_
  refine rl_ow rfl (ow_storeW rfl rfl (by kernel_rfl) hOz 0 rfl rfl (by rfl) rfl (by rfl)) ?_
  rintro _ w31 ⟨rfl, hO32, hs33⟩
  refine rl_nil <| run_ret Try.func24 (resW Try.results24 rfl Try.underlying47 rfl (by kernel_rfl) hO32 0 rfl) ?_
  exact ⟨q1, L1, E1, ga1, gc1, Hg, rfl, rfl, ⟨hTg, hTd.is, hTd.len⟩, hO32.tail.tail.tail.sub (List.sublist_append_left _ _)⟩
end Go.Proofs.Ytlldeifbfpmbaaa
