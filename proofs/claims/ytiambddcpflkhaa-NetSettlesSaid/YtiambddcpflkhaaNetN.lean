/- Crises: the reference's Received, Paid, Check, CheckCrisis, Clearing, All, Greatest. -/
import Derived.Test.YtiambddcpflkhaaNetM
set_option maxRecDepth 100000
namespace Go.Proofs.Ytiambddcpflkhaa
open Go.RowKit Go.Proofs

theorem refReceived_any (ao bo : Option Addr) (n c m cb : Nat) (D : Int → Int → Int) (p : Int → Int) (w : World) (hv : Valid n D) (hm : n ≤ m) (hp : ∀ i : Int, 0 ≤ i → i < n → 0 ≤ p i ∧ p i ≤ ow n D i)
    (h : ITab w.heap.size w ao n (fun _ => n) (fun r c => .int .i64 (D r c))) (h2 : IAt w.heap.size w bo m (fun i => .int .i64 (p i))) :
    Calls Try.prog 24 #[.slice ao n c, .slice bo m cb] w fun e w' => ∃ b, e = .returned (.slice (some ⟨b, 0, none⟩) n n) ∧ Own w.heap.size w w' [some (vch b 2 n (fun i => .int .i64 (rcv n D p i)))] := by
  obtain ⟨A, C, RB, RO, gb, go, hga, hrow, hra, hel, _⟩ := h.open
  obtain ⟨qb, qo, hqa, hq⟩ := h2.open
  have hle := hv.le
  have hqu := fun (i j : Int) (i0 : 0 ≤ i) (i1 : i < n) => quo_rng hv (p i) i j (hp i i0 i1).1 (hp i i0 i1).2
  have hsum : ∀ j k : Int, 0 ≤ k → k ≤ n → 0 ≤ sm (fun i => p i * D i j / ow n D i) k ∧ sm (fun i => p i * D i j / ow n D i) k ≤ k * 1000000 := fun j k k0 k1 =>
    ⟨sm_nonneg fun i i0 i1 => (hqu i j i0 (by omega)).1, sm_bound _ k0 fun i i0 i1 => by have := (hqu i j i0 (by omega)).2; have := hv.hi i j; omega⟩
  refine calls_of_run (F := [(0, _), (1, _)]) Try.func24 rfl Try.ntmps24 rfl rfl ?_
  have hO0 := Own.init w
  refine run_seq ?_
  refine run_region ?_
  refine rl_v rfl rfl rfl (ov_assign rfl rfl) ?_
  refine rl_nil ?_
  refine run_seq ?_
  refine run_region ?_
  refine rl_v rfl rfl rfl (ov_move rfl rfl) ?_
  refine rl_v rfl rfl rfl (ov_len rfl Try.underlying22 rfl) ?_
  refine rl_make (n) rfl rfl rfl rfl Try.underlying23 info_2 rfl hO0 rfl rfl (by first | rfl | omega) (by first | rfl | omega) ⟨by omega, by omega⟩ (fun b w1 hO2 hs3 => ?_)
  refine rl_v rfl rfl rfl (ov_assign rfl rfl) ?_
  refine rl_nil ?_
  refine run_seq ?_
  refine run_region ?_
  refine rl_v rfl rfl rfl (ov_move rfl rfl) ?_
  refine rl_call callable_27 rfl rfl rfl rfl rfl rfl (refOwes_any ao n c D _ hv (h.later hO2.below)) (fun e4 w5 hp6 => ?_)
  obtain ⟨b2, rfl, hOc⟩ := hp6
  refine ⟨_, rfl, ?_⟩
  have hO7 := hO2.join hOc
  refine rl_v rfl rfl rfl (ov_assign rfl rfl) ?_
  refine rl_nil ?_
  refine run_seq ?_
  refine run_seq ?_
  refine run_region ?_
  refine rl_v rfl rfl rfl (ov_assign rfl rfl) ?_
  refine rl_nil ?_
  refine run_block ?_
  refine Run.keep [0, 1, 5, 6, 7] (F' := [(0, _), (1, _), (5, _), (6, _), (7, _)]) rfl ?_
  refine run_loop2 (fun (k : Int) (g : Int → Int) => [(7, .int .i64 k)]) [0, 1, 5, 6] (fun (k : Int) (g : Int → Int) (w8 : World) => 0 ≤ k ∧ k ≤ n ∧ (∀ j : Int, 0 ≤ j → j < n → g j = if j < n then sm (fun i => p i * D i j / ow n D i) k else 0) ∧ Own w.heap.size w w8 [some (vch b2 2 n (fun i => .int .i64 (ow n D i))), some (vch b 2 n (fun i => .int .i64 (g i)))]) (fun (k : Int) (g : Int → Int) => ((n : Int) - k).toNat) (0) (fun _ => 0) ?_ (And.intro (by first | with_reducible rfl | exact slot_int rfl (by first | omega) | rfl) (And.intro rfl (And.intro rfl (And.intro rfl (And.intro rfl trivial))))) ?_
  · exact ⟨by omega, by omega, fun i i0 i1 => by rw [sm_zero]; split <;> rfl, hO7⟩
  intro k g w8 hIw8 ih9
  obtain ⟨hk0, hk1, hg, hO⟩ := hIw8
  show Run _ _ _ _ [(7, _), (0, _), (1, _), (5, _), (6, _)] _ _
  refine run_seq ?_
  refine run_seq ?_
  refine run_region ?_
  refine rl_v rfl rfl rfl (ov_move rfl rfl) ?_
  refine rl_v rfl rfl rfl (ov_move rfl rfl) ?_
  refine rl_v rfl rfl rfl (ov_len rfl Try.underlying22 rfl) ?_
  refine rl_v rfl rfl rfl (ov_lss rfl rfl rfl) ?_
  refine rl_nil ?_
  first | refine run_cond_dec rfl (fun h1 => ?_) (fun h1 => ?_) | refine run_cond rfl (fun h1 => ?_) (fun h1 => ?_)
  · refine run_skip ?_
    refine run_seq ?_
    refine run_block ?_
    refine run_seq ?_
    refine run_region ?_
    refine rl_v rfl rfl rfl (ov_assign rfl rfl) ?_
    refine rl_nil ?_
    refine run_block ?_
    refine Run.keep [0, 1, 5, 6, 7, 8] (F' := [(0, _), (1, _), (5, _), (6, _), (7, _), (8, _)]) rfl ?_
    refine run_loop2 (fun (j : Int) (g2 : Int → Int) => [(8, .int .i64 j)]) [0, 1, 5, 6, 7] (fun (j : Int) (g2 : Int → Int) (w10 : World) => 0 ≤ j ∧ j ≤ n ∧ (∀ x : Int, 0 ≤ x → x < n → g2 x = if x < n then sm (fun i => p i * D i x / ow n D i) (if x < j then k + 1 else k) else 0) ∧ Own w.heap.size w w10 [some (vch b2 2 n (fun i => .int .i64 (ow n D i))), some (vch b 2 n (fun i => .int .i64 (g2 i)))]) (fun (j : Int) (g2 : Int → Int) => ((n : Int) - j).toNat) (0) (g) ?_ (And.intro (by first | with_reducible rfl | exact slot_int rfl (by first | omega) | rfl) (And.intro rfl (And.intro rfl (And.intro rfl (And.intro rfl (And.intro rfl trivial)))))) ?_
    · exact ⟨by omega, by omega, fun x x0 x1 => by rw [hg x x0 x1, if_neg (show ¬ x < 0 by omega)], hO⟩
    intro j g2 w10 hIw10 ih11
    obtain ⟨hj0, hj1, hg2, hO2⟩ := hIw10
    show Run _ _ _ _ [(8, _), (0, _), (1, _), (5, _), (6, _), (7, _)] _ _
    refine run_seq ?_
    refine run_seq ?_
    refine run_region_join 30 (.bool (decide (j < n ∧ 0 < ow n D k))) [0, 1, 5, 6, 7, 8] (fun hk12 => ?_) ?_
    · refine rl_v rfl rfl rfl (ov_move rfl rfl) ?_
      refine rl_v rfl rfl rfl (ov_move rfl rfl) ?_
      refine rl_v rfl rfl rfl (ov_len rfl Try.underlying22 rfl) ?_
      refine rl_v rfl rfl rfl (ov_lss rfl rfl rfl) ?_
      refine rl_v rfl rfl rfl (ov_move rfl rfl) ?_
      first | refine rl_split_dec 24 rfl (fun hg13 => ?_) (fun hg13 => ?_) | refine rl_split 24 rfl (fun hg13 => ?_) (fun hg13 => ?_)
      · refine rl_gv rfl rfl rfl rfl rfl (ov_move rfl rfl) ?_
        refine rl_gv rfl rfl rfl rfl rfl (ov_move rfl rfl) ?_
        refine rl_gv rfl rfl rfl rfl rfl (ov_index1 rfl Try.underlying23 (by kernel_rfl) rfl rfl ⟨by omega, by omega⟩ (by first | rfl | exact hga (by omega) | exact hra _ (by omega) (by omega) (by omega) | exact hqa (by omega))) ?_
        refine rl_gv rfl rfl rfl rfl rfl (ov_load rfl Try.underlying2 rfl rfl (by first | exact hrow _ hO2.below _ (by omega) (by omega) | exact hel _ hO2.below _ (by omega) (by omega) _ (by omega) (by omega) | exact hq _ hO2.below _ (by omega) (by omega) | exact hO2.cellI 0 rfl _ (by omega) (by omega) | exact hO2.cellL 0 rfl rfl | exact hO2.cellI 1 rfl _ (by omega) (by omega) | exact hO2.cellL 1 rfl rfl | exact hO2.cellI 2 rfl _ (by omega) (by omega) | exact hO2.cellL 2 rfl rfl | exact hO2.cellI 3 rfl _ (by omega) (by omega) | exact hO2.cellL 3 rfl rfl | exact hO2.cellI 4 rfl _ (by omega) (by omega) | exact hO2.cellL 4 rfl rfl | exact hO2.cellI 5 rfl _ (by omega) (by omega) | exact hO2.cellL 5 rfl rfl)) ?_
        refine rl_gv rfl rfl rfl rfl rfl (ov_gtr rfl rfl rfl) ?_
        refine rl_v rfl rfl rfl (ov_pick_t rfl rfl rfl) ?_
        refine rl_nil (hk12 _ (jbd rfl (by first | omega | grind)) (And.intro rfl (And.intro rfl (And.intro rfl (And.intro rfl (And.intro rfl (And.intro rfl trivial)))))))
      · refine rl_gskip rfl rfl rfl rfl rfl rfl ?_
        refine rl_gskip rfl rfl rfl rfl rfl rfl ?_
        refine rl_gskip rfl rfl rfl rfl rfl rfl ?_
        refine rl_gskip rfl rfl rfl rfl rfl rfl ?_
        refine rl_gskip rfl rfl rfl rfl rfl rfl ?_
        refine rl_v rfl rfl rfl (ov_pick_f rfl rfl rfl) ?_
        refine rl_nil (hk12 _ (jbf rfl (by first | omega | grind)) (And.intro rfl (And.intro rfl (And.intro rfl (And.intro rfl (And.intro rfl (And.intro rfl trivial)))))))
    · show Run _ _ _ _ [(30, _), (0, _), (1, _), (5, _), (6, _), (7, _), (8, _)] _ _
      first | refine run_cond_dec rfl (fun h2 => ?_) (fun h2 => ?_) | refine run_cond rfl (fun h2 => ?_) (fun h2 => ?_)
      · have h2a := h2.1
        have h2b := h2.2
        have hd0 := hv.lo k j
        have hd1 := hv.hi k j
        have hpk := hp k hk0 h1
        have hor := ow_rng hv k
        have hgj := hg2 j hj0 (by omega)
        rw [if_pos h2a, if_neg (Int.lt_irrefl j)] at hgj
        have hs1 := hsum j k hk0 hk1
        have hq1 := hqu k j hk0 h1
        have hmul := mulb hpk.1 (show p k ≤ 32000000 by omega) hd0 hd1
        refine run_skip ?_
        refine run_seq ?_
        refine run_block ?_
        refine run_tail 25 mixed (by kernel_rfl) ?_
        have hO15 := hO2.drew
        generalize World.drew w10 = w14 at hO15 ⊢
        refine rt_v rfl rfl rfl (ov_move rfl rfl) ?_
        refine rt_v rfl rfl rfl (ov_move rfl rfl) ?_
        refine rt_v rfl rfl rfl (ov_move rfl rfl) ?_
        refine rt_v rfl rfl rfl (ov_move rfl rfl) ?_
        refine rt_v rfl rfl rfl (ov_index1 rfl Try.underlying23 (by kernel_rfl) rfl rfl ⟨by omega, by omega⟩ (by first | rfl | exact hga (by omega) | exact hra _ (by omega) (by omega) (by omega) | exact hqa (by omega))) ?_
        refine rt_v rfl rfl rfl (ov_load rfl Try.underlying2 rfl rfl (by first | exact hrow _ hO15.below _ (by omega) (by omega) | exact hel _ hO15.below _ (by omega) (by omega) _ (by omega) (by omega) | exact hq _ hO15.below _ (by omega) (by omega) | exact hO15.cellI 0 rfl _ (by omega) (by omega) | exact hO15.cellL 0 rfl rfl | exact hO15.cellI 1 rfl _ (by omega) (by omega) | exact hO15.cellL 1 rfl rfl | exact hO15.cellI 2 rfl _ (by omega) (by omega) | exact hO15.cellL 2 rfl rfl | exact hO15.cellI 3 rfl _ (by omega) (by omega) | exact hO15.cellL 3 rfl rfl | exact hO15.cellI 4 rfl _ (by omega) (by omega) | exact hO15.cellL 4 rfl rfl | exact hO15.cellI 5 rfl _ (by omega) (by omega) | exact hO15.cellL 5 rfl rfl)) ?_
        refine rt_v rfl rfl rfl (ov_move rfl rfl) ?_
        refine rt_v rfl rfl rfl (ov_move rfl rfl) ?_
        refine rt_v rfl rfl rfl (ov_index1 rfl Try.underlying23 (by kernel_rfl) rfl rfl ⟨by omega, by omega⟩ (by first | rfl | exact hga (by omega) | exact hra _ (by omega) (by omega) (by omega) | exact hqa (by omega))) ?_
        refine rt_v rfl rfl rfl (ov_load rfl Try.underlying2 rfl rfl (by first | exact hrow _ hO15.below _ (by omega) (by omega) | exact hel _ hO15.below _ (by omega) (by omega) _ (by omega) (by omega) | exact hq _ hO15.below _ (by omega) (by omega) | exact hO15.cellI 0 rfl _ (by omega) (by omega) | exact hO15.cellL 0 rfl rfl | exact hO15.cellI 1 rfl _ (by omega) (by omega) | exact hO15.cellL 1 rfl rfl | exact hO15.cellI 2 rfl _ (by omega) (by omega) | exact hO15.cellL 2 rfl rfl | exact hO15.cellI 3 rfl _ (by omega) (by omega) | exact hO15.cellL 3 rfl rfl | exact hO15.cellI 4 rfl _ (by omega) (by omega) | exact hO15.cellL 4 rfl rfl | exact hO15.cellI 5 rfl _ (by omega) (by omega) | exact hO15.cellL 5 rfl rfl)) ?_
        refine rt_v rfl rfl rfl (ov_move rfl rfl) ?_
        refine rt_v rfl rfl rfl (ov_move rfl rfl) ?_
        refine rt_v rfl rfl rfl (ov_index1 rfl Try.underlying22 (by kernel_rfl) rfl rfl ⟨by omega, by omega⟩ (by first | rfl | exact hga (by omega) | exact hra _ (by omega) (by omega) (by omega) | exact hqa (by omega))) ?_
        refine rt_v rfl rfl rfl (ov_load rfl Try.underlying23 rfl rfl (by first | exact hrow _ hO15.below _ (by omega) (by omega) | exact hel _ hO15.below _ (by omega) (by omega) _ (by omega) (by omega) | exact hq _ hO15.below _ (by omega) (by omega) | exact hO15.cellI 0 rfl _ (by omega) (by omega) | exact hO15.cellL 0 rfl rfl | exact hO15.cellI 1 rfl _ (by omega) (by omega) | exact hO15.cellL 1 rfl rfl | exact hO15.cellI 2 rfl _ (by omega) (by omega) | exact hO15.cellL 2 rfl rfl | exact hO15.cellI 3 rfl _ (by omega) (by omega) | exact hO15.cellL 3 rfl rfl | exact hO15.cellI 4 rfl _ (by omega) (by omega) | exact hO15.cellL 4 rfl rfl | exact hO15.cellI 5 rfl _ (by omega) (by omega) | exact hO15.cellL 5 rfl rfl)) ?_
        refine rt_v rfl rfl rfl (ov_move rfl rfl) ?_
        refine rt_v rfl rfl rfl (ov_index1 rfl Try.underlying23 (by kernel_rfl) rfl rfl ⟨by omega, by omega⟩ (by first | rfl | exact hga (by omega) | exact hra _ (by omega) (by omega) (by omega) | exact hqa (by omega))) ?_
        refine rt_v rfl rfl rfl (ov_load rfl Try.underlying2 rfl rfl (by first | exact hrow _ hO15.below _ (by omega) (by omega) | exact hel _ hO15.below _ (by omega) (by omega) _ (by omega) (by omega) | exact hq _ hO15.below _ (by omega) (by omega) | exact hO15.cellI 0 rfl _ (by omega) (by omega) | exact hO15.cellL 0 rfl rfl | exact hO15.cellI 1 rfl _ (by omega) (by omega) | exact hO15.cellL 1 rfl rfl | exact hO15.cellI 2 rfl _ (by omega) (by omega) | exact hO15.cellL 2 rfl rfl | exact hO15.cellI 3 rfl _ (by omega) (by omega) | exact hO15.cellL 3 rfl rfl | exact hO15.cellI 4 rfl _ (by omega) (by omega) | exact hO15.cellL 4 rfl rfl | exact hO15.cellI 5 rfl _ (by omega) (by omega) | exact hO15.cellL 5 rfl rfl)) ?_
        refine rt_v rfl rfl rfl (ov_mul rfl rfl rfl (by omega)) ?_
        refine rt_v rfl rfl rfl (ov_move rfl rfl) ?_
        refine rt_v rfl rfl rfl (ov_move rfl rfl) ?_
        refine rt_v rfl rfl rfl (ov_index1 rfl Try.underlying23 (by kernel_rfl) rfl rfl ⟨by omega, by omega⟩ (by first | rfl | exact hga (by omega) | exact hra _ (by omega) (by omega) (by omega) | exact hqa (by omega))) ?_
        refine rt_v rfl rfl rfl (ov_load rfl Try.underlying2 rfl rfl (by first | exact hrow _ hO15.below _ (by omega) (by omega) | exact hel _ hO15.below _ (by omega) (by omega) _ (by omega) (by omega) | exact hq _ hO15.below _ (by omega) (by omega) | exact hO15.cellI 0 rfl _ (by omega) (by omega) | exact hO15.cellL 0 rfl rfl | exact hO15.cellI 1 rfl _ (by omega) (by omega) | exact hO15.cellL 1 rfl rfl | exact hO15.cellI 2 rfl _ (by omega) (by omega) | exact hO15.cellL 2 rfl rfl | exact hO15.cellI 3 rfl _ (by omega) (by omega) | exact hO15.cellL 3 rfl rfl | exact hO15.cellI 4 rfl _ (by omega) (by omega) | exact hO15.cellL 4 rfl rfl | exact hO15.cellI 5 rfl _ (by omega) (by omega) | exact hO15.cellL 5 rfl rfl)) ?_
        refine rt_v rfl rfl rfl (ov_quo rfl rfl rfl ⟨by omega, by omega⟩ (by omega)) ?_
        refine rt_v rfl rfl rfl (ov_add rfl rfl rfl (by omega)) ?_
        refine rt_v rfl rfl rfl (ov_index1 rfl Try.underlying23 (by kernel_rfl) rfl rfl ⟨by omega, by omega⟩ (by first | rfl | exact hga (by omega) | exact hra _ (by omega) (by omega) (by omega) | exact hqa (by omega))) ?_
        refine rt_nil ?_
        refine rl_ow rfl (ow_storeI rfl rfl (by kernel_rfl) hO15 1 rfl rfl ⟨by omega, by omega⟩ rfl) ?_
        rintro _ w16 ⟨rfl, hO17, hs18⟩
        refine rl_nil ?_
        refine run_inBlock ?_
        refine run_region ?_
        refine rl_v rfl rfl rfl (ov_move rfl rfl) ?_
        refine rl_v rfl rfl rfl (ov_add rfl rfl rfl (by omega)) ?_
        refine rl_v rfl rfl rfl (ov_assign rfl rfl) ?_
        refine rl_nil ?_
        refine Run.use (ih11 (j + 1) (upd g2 j (g2 j + p k * D k j / ow n D k)) _ ?_ ?_) (And.intro (by first | with_reducible rfl | exact slot_int rfl (by first | omega) | rfl) (And.intro rfl (And.intro rfl (And.intro rfl (And.intro rfl (And.intro rfl trivial))))))
        · first | omega | (dsimp only; omega)
        · exact ⟨by omega, by omega, fun x x0 x1 => step_up (o := ow n D) hgj rfl h2a hk0 (hg2 x x0 x1), hO17⟩
      · have hstep : ∀ x : Int, 0 ≤ x → x < n → g2 x = if x < n then sm (fun i => p i * D i x / ow n D i) (k + 1) else 0 := fun x x0 x1 => by
          rw [hg2 x x0 x1, if_pos x1, if_pos x1]
          by_cases hx : x < j
          · rw [if_pos hx]
          · rw [if_neg hx]
            have hz : ow n D k = 0 := by have := (ow_rng hv k).1; omega
            rw [sm_succ _ hk0, hz, Int.ediv_zero, Int.add_zero]
        refine run_exit rfl ?_
        refine run_inBlock ?_
        refine run_region ?_
        refine rl_v rfl rfl rfl (ov_move rfl rfl) ?_
        refine rl_v rfl rfl rfl (ov_add rfl rfl rfl (by omega)) ?_
        refine rl_v rfl rfl rfl (ov_assign rfl rfl) ?_
        refine rl_nil ?_
        refine Run.use (ih9 (k + 1) (g2) _ ?_ ?_) (And.intro (by first | with_reducible rfl | exact slot_int rfl (by first | omega) | rfl) (And.intro rfl (And.intro rfl (And.intro rfl (And.intro rfl trivial)))))
        · first | omega | (dsimp only; omega)
        · exact ⟨by omega, by omega, hstep, hO2⟩
  · obtain rfl : k = n := by omega
    refine run_exit rfl ?_
    refine run_seq ?_
    refine run_region ?_
    refine rl_v rfl rfl rfl (ov_move rfl rfl) ?_
    refine rl_v rfl rfl rfl (ov_assign rfl rfl) ?_
    refine rl_nil ?_
    refine run_ret Try.func24 (res1 Try.results24 rfl) ?_
    exact ⟨b, rfl, (hO.tail).congrI 0 rfl (fun i i0 i1 => by rw [hg i i0 i1, if_pos i1]; rfl)⟩

theorem refPaid_any (ao bo : Option Addr) (n c m cb : Nat) (D : Int → Int → Int) (cash : Value) (p : Int → Int) (w : World) (hv : Valid n D)
    (h : ITab w.heap.size w ao n (fun _ => n) (fun r c => .int .i64 (D r c))) (h2 : IAt w.heap.size w bo m (fun i => .int .i64 (p i))) :
    Calls Try.prog 22 #[.agg [.slice ao n c, cash].toArray, .slice bo m cb] w fun e w' => (∃ b, e = .returned (.bool b) ∧ (b = true ↔ m = n ∧ ∀ i : Int, 0 ≤ i → i < n → 0 ≤ p i ∧ p i ≤ ow n D i)) ∧ Below w.heap.size w w' := by
  obtain ⟨qb, qo, hqa, hq⟩ := h2.open
  have hle := hv.le
  refine calls_of_run (F := [(0, _), (1, _)]) Try.func22 rfl Try.ntmps22 rfl rfl ?_
  have hO0 := Own.init w
  refine run_seq ?_
  refine run_region ?_
  refine rl_ow rfl (ow_box _ rfl rfl rfl rfl rfl hO0) ?_
  rintro _ w1 ⟨b1, rfl, hO2, hs3⟩
  refine rl_v rfl rfl rfl (ov_assign rfl rfl) ?_
  refine rl_nil ?_
  refine run_seq ?_
  refine run_seq ?_
  refine run_region ?_
  refine rl_v rfl rfl rfl (ov_move rfl rfl) ?_
  refine rl_v rfl rfl rfl (ov_len rfl Try.underlying23 rfl) ?_
  refine rl_v rfl rfl rfl (ov_fieldS rfl Try.underlying35 rfl (fo := 0) rfl (by kernel_rfl) rfl) ?_
  refine rl_v rfl rfl rfl (ov_load rfl Try.underlying22 rfl rfl (by first | exact hq _ hO2.below _ (by omega) (by omega) | exact hO2.cellI 0 rfl _ (by omega) (by omega) | exact hO2.cellL 0 rfl rfl | exact hO2.cellI 1 rfl _ (by omega) (by omega) | exact hO2.cellL 1 rfl rfl | exact hO2.cellI 2 rfl _ (by omega) (by omega) | exact hO2.cellL 2 rfl rfl | exact hO2.cellI 3 rfl _ (by omega) (by omega) | exact hO2.cellL 3 rfl rfl | exact hO2.cellI 4 rfl _ (by omega) (by omega) | exact hO2.cellL 4 rfl rfl | exact hO2.cellI 5 rfl _ (by omega) (by omega) | exact hO2.cellL 5 rfl rfl)) ?_
  refine rl_v rfl rfl rfl (ov_len rfl Try.underlying22 rfl) ?_
  refine rl_v rfl rfl rfl (ov_neq rfl rfl rfl) ?_
  refine rl_nil ?_
  first | refine run_cond_dec rfl (fun h1 => ?_) (fun h1 => ?_) | refine run_cond rfl (fun h1 => ?_) (fun h1 => ?_)
  · refine run_seq ?_
    refine run_region ?_
    refine rl_v rfl rfl rfl (ov_assign rfl rfl) ?_
    refine rl_nil ?_
    refine run_ret Try.func22 (res1 Try.results22 rfl) ?_
    exact ⟨⟨false, rfl, ⟨fun h => Bool.noConfusion h, fun ⟨h, _⟩ => by omega⟩⟩, hO2.below⟩
  · obtain rfl : m = n := by omega
    refine run_skip ?_
    refine run_seq ?_
    refine run_region ?_
    refine rl_v rfl rfl rfl (ov_fieldS rfl Try.underlying35 rfl (fo := 0) rfl (by kernel_rfl) rfl) ?_
    refine rl_v rfl rfl rfl (ov_load rfl Try.underlying22 rfl rfl (by first | exact hq _ hO2.below _ (by omega) (by omega) | exact hO2.cellI 0 rfl _ (by omega) (by omega) | exact hO2.cellL 0 rfl rfl | exact hO2.cellI 1 rfl _ (by omega) (by omega) | exact hO2.cellL 1 rfl rfl | exact hO2.cellI 2 rfl _ (by omega) (by omega) | exact hO2.cellL 2 rfl rfl | exact hO2.cellI 3 rfl _ (by omega) (by omega) | exact hO2.cellL 3 rfl rfl | exact hO2.cellI 4 rfl _ (by omega) (by omega) | exact hO2.cellL 4 rfl rfl | exact hO2.cellI 5 rfl _ (by omega) (by omega) | exact hO2.cellL 5 rfl rfl)) ?_
    refine rl_call callable_27 rfl rfl rfl rfl rfl rfl (refOwes_any ao m c D _ hv (h.later hO2.below)) (fun e4 w5 hp6 => ?_)
    obtain ⟨b2, rfl, hOc⟩ := hp6
    refine ⟨_, rfl, ?_⟩
    have hO7 := hO2.join hOc
    refine rl_v rfl rfl rfl (ov_assign rfl rfl) ?_
    refine rl_nil ?_
    refine run_seq ?_
    refine run_seq ?_
    refine run_region ?_
    refine rl_v rfl rfl rfl (ov_assign rfl rfl) ?_
    refine rl_nil ?_
    refine run_block ?_
    refine Run.keep [1, 5, 6] (F' := [(1, _), (5, _), (6, _)]) rfl ?_
    refine run_loop1 (fun (k : Int) => [(6, .int .i64 k)]) [1, 5] (fun (k : Int) (w8 : World) => 0 ≤ k ∧ k ≤ m ∧ (∀ i : Int, 0 ≤ i → i < k → 0 ≤ p i ∧ p i ≤ ow m D i) ∧ Own w.heap.size w w8 [some (vch b2 2 m (fun i => .int .i64 (ow m D i))), some (lch b1 35 [.slice ao m c, cash])]) (fun (k : Int) => ((m : Int) - k).toNat) (0) ?_ (And.intro (by first | with_reducible rfl | exact slot_int rfl (by first | omega) | rfl) (And.intro rfl (And.intro rfl trivial))) ?_
    · exact ⟨by omega, by omega, fun i i0 i1 => by omega, hO7⟩
    intro k w8 hIw8 ih9
    obtain ⟨hk0, hk1, hall, hO⟩ := hIw8
    show Run _ _ _ _ [(6, _), (1, _), (5, _)] _ _
    refine run_seq ?_
    refine run_seq ?_
    refine run_region ?_
    refine rl_v rfl rfl rfl (ov_move rfl rfl) ?_
    refine rl_v rfl rfl rfl (ov_move rfl rfl) ?_
    refine rl_v rfl rfl rfl (ov_len rfl Try.underlying23 rfl) ?_
    refine rl_v rfl rfl rfl (ov_lss rfl rfl rfl) ?_
    refine rl_nil ?_
    first | refine run_cond_dec rfl (fun h2 => ?_) (fun h2 => ?_) | refine run_cond rfl (fun h2 => ?_) (fun h2 => ?_)
    · refine run_skip ?_
      refine run_seq ?_
      refine run_block ?_
      refine run_seq ?_
      refine run_quiet_join mixed (by kernel_rfl) 37 (.bool (decide (p k < 0 ∨ ow m D k < p k))) [1, 5, 6] (fun hk10 => ?_) (fun n11 => ?_)
      · refine rq_v rfl rfl rfl (fun _ => ov_move rfl rfl) ?_
        refine rq_v rfl rfl rfl (fun _ => ov_move rfl rfl) ?_
        refine rq_v rfl rfl rfl (fun _ => ov_index1 rfl Try.underlying23 (by kernel_rfl) rfl rfl ⟨by omega, by omega⟩ (by first | rfl | exact hqa (by omega))) ?_
        refine rq_v rfl rfl rfl (fun _ => ov_load rfl Try.underlying2 rfl rfl (by show World.cell? w8 _ = _; first | exact hq _ hO.below _ (by omega) (by omega) | exact hO.cellI 0 rfl _ (by omega) (by omega) | exact hO.cellL 0 rfl rfl | exact hO.cellI 1 rfl _ (by omega) (by omega) | exact hO.cellL 1 rfl rfl | exact hO.cellI 2 rfl _ (by omega) (by omega) | exact hO.cellL 2 rfl rfl | exact hO.cellI 3 rfl _ (by omega) (by omega) | exact hO.cellL 3 rfl rfl | exact hO.cellI 4 rfl _ (by omega) (by omega) | exact hO.cellL 4 rfl rfl | exact hO.cellI 5 rfl _ (by omega) (by omega) | exact hO.cellL 5 rfl rfl)) ?_
        refine rq_v rfl rfl rfl (fun _ => ov_lss rfl rfl rfl) ?_
        refine rq_v rfl rfl rfl (fun _ => ov_move rfl rfl) ?_
        first | refine rq_split_dec 27 rfl (fun hg12 => ?_) (fun hg12 => ?_) | refine rq_split 27 rfl (fun hg12 => ?_) (fun hg12 => ?_)
        · refine rq_gskip rfl rfl rfl rfl rfl rfl ?_
          refine rq_gskip rfl rfl rfl rfl rfl rfl ?_
          refine rq_gskip rfl rfl rfl rfl rfl rfl ?_
          refine rq_gskip rfl rfl rfl rfl rfl rfl ?_
          refine rq_gskip rfl rfl rfl rfl rfl rfl ?_
          refine rq_gskip rfl rfl rfl rfl rfl rfl ?_
          refine rq_gskip rfl rfl rfl rfl rfl rfl ?_
          refine rq_gskip rfl rfl rfl rfl rfl rfl ?_
          refine rq_gskip rfl rfl rfl rfl rfl rfl ?_
          refine rq_v rfl rfl rfl (fun _ => ov_pick_t rfl rfl rfl) ?_
          refine rq_nil (fun n => hk10 n _ (jbt rfl (by first | omega | grind)) (And.intro rfl (And.intro rfl (And.intro rfl trivial))))
        · refine rq_gv rfl rfl rfl rfl rfl (fun _ => ov_move rfl rfl) ?_
          refine rq_gv rfl rfl rfl rfl rfl (fun _ => ov_move rfl rfl) ?_
          refine rq_gv rfl rfl rfl rfl rfl (fun _ => ov_index1 rfl Try.underlying23 (by kernel_rfl) rfl rfl ⟨by omega, by omega⟩ (by first | rfl | exact hqa (by omega))) ?_
          refine rq_gv rfl rfl rfl rfl rfl (fun _ => ov_load rfl Try.underlying2 rfl rfl (by show World.cell? w8 _ = _; first | exact hq _ hO.below _ (by omega) (by omega) | exact hO.cellI 0 rfl _ (by omega) (by omega) | exact hO.cellL 0 rfl rfl | exact hO.cellI 1 rfl _ (by omega) (by omega) | exact hO.cellL 1 rfl rfl | exact hO.cellI 2 rfl _ (by omega) (by omega) | exact hO.cellL 2 rfl rfl | exact hO.cellI 3 rfl _ (by omega) (by omega) | exact hO.cellL 3 rfl rfl | exact hO.cellI 4 rfl _ (by omega) (by omega) | exact hO.cellL 4 rfl rfl | exact hO.cellI 5 rfl _ (by omega) (by omega) | exact hO.cellL 5 rfl rfl)) ?_
          refine rq_gv rfl rfl rfl rfl rfl (fun _ => ov_move rfl rfl) ?_
          refine rq_gv rfl rfl rfl rfl rfl (fun _ => ov_move rfl rfl) ?_
          refine rq_gv rfl rfl rfl rfl rfl (fun _ => ov_index1 rfl Try.underlying23 (by kernel_rfl) rfl rfl ⟨by omega, by omega⟩ (by first | rfl | exact hqa (by omega))) ?_
          refine rq_gv rfl rfl rfl rfl rfl (fun _ => ov_load rfl Try.underlying2 rfl rfl (by show World.cell? w8 _ = _; first | exact hq _ hO.below _ (by omega) (by omega) | exact hO.cellI 0 rfl _ (by omega) (by omega) | exact hO.cellL 0 rfl rfl | exact hO.cellI 1 rfl _ (by omega) (by omega) | exact hO.cellL 1 rfl rfl | exact hO.cellI 2 rfl _ (by omega) (by omega) | exact hO.cellL 2 rfl rfl | exact hO.cellI 3 rfl _ (by omega) (by omega) | exact hO.cellL 3 rfl rfl | exact hO.cellI 4 rfl _ (by omega) (by omega) | exact hO.cellL 4 rfl rfl | exact hO.cellI 5 rfl _ (by omega) (by omega) | exact hO.cellL 5 rfl rfl)) ?_
          refine rq_gv rfl rfl rfl rfl rfl (fun _ => ov_gtr rfl rfl rfl) ?_
          refine rq_v rfl rfl rfl (fun _ => ov_pick_f rfl rfl rfl) ?_
          refine rq_nil (fun n => hk10 n _ (jbd rfl (by first | omega | grind)) (And.intro rfl (And.intro rfl (And.intro rfl trivial))))
      · have hO14 := hO.drewN n11
        generalize World.drewN w8 n11 = w13 at hO14 ⊢
        show Run _ _ _ _ [(37, _), (1, _), (5, _), (6, _)] _ _
        first | refine run_cond_dec rfl (fun h3 => ?_) (fun h3 => ?_) | refine run_cond rfl (fun h3 => ?_) (fun h3 => ?_)
        · refine run_seq ?_
          refine run_region ?_
          refine rl_v rfl rfl rfl (ov_assign rfl rfl) ?_
          refine rl_nil ?_
          refine run_ret Try.func22 (res1 Try.results22 rfl) ?_
          exact ⟨⟨false, rfl, ⟨fun h => Bool.noConfusion h, fun ⟨_, h⟩ => by have := h k hk0 h2; omega⟩⟩, hO14.below⟩
        · refine run_skip ?_
          refine run_inBlock ?_
          refine run_region ?_
          refine rl_v rfl rfl rfl (ov_move rfl rfl) ?_
          refine rl_v rfl rfl rfl (ov_add rfl rfl rfl (by omega)) ?_
          refine rl_v rfl rfl rfl (ov_assign rfl rfl) ?_
          refine rl_nil ?_
          refine Run.use (ih9 _ _ ?_ ?_) (And.intro (by first | with_reducible rfl | exact slot_int rfl (by first | omega) | rfl) (And.intro rfl (And.intro rfl trivial)))
          · first | omega | (dsimp only; omega)
          · exact ⟨by omega, by omega, fun i h0 h1' => (by omega : i = k ∨ i < k).elim (fun e => by rw [e]; omega) (fun e => hall i h0 e), hO14⟩
    · refine run_exit rfl ?_
      refine run_seq ?_
      refine run_region ?_
      refine rl_v rfl rfl rfl (ov_assign rfl rfl) ?_
      refine rl_nil ?_
      refine run_ret Try.func22 (res1 Try.results22 rfl) ?_
      exact ⟨⟨true, rfl, ⟨fun _ => ⟨rfl, fun i h0 h1' => hall i h0 (by omega)⟩, fun _ => rfl⟩⟩, hO.below⟩

theorem square_any (ao : Option Addr) (n c : Nat) (k0 : Int) (L : Int → Nat) (D : Int → Int → Int) (w : World) (hn : n ≤ 1000000000000000)
    (h : ITab w.heap.size w ao n L (fun r c => .int .i64 (D r c))) :
    Calls Try.prog 76 #[.slice ao n c, .int .i64 k0] w fun e w' => (∃ b, e = .returned (.bool b) ∧ (b = true ↔ (n : Int) = k0 ∧ ∀ r : Int, 0 ≤ r → r < n → (L r : Int) = k0)) ∧ Below w.heap.size w w' := by
  obtain ⟨A, C, RB, RO, gb, go, hga, hrow, hra, hel, _⟩ := h.open
  refine calls_of_run (F := [(0, _), (1, _)]) Try.func76 rfl Try.ntmps76 rfl rfl ?_
  have hO0 := Own.init w
  refine run_seq ?_
  refine run_region ?_
  refine rl_v rfl rfl rfl (ov_assign rfl rfl) ?_
  refine rl_nil ?_
  refine run_seq ?_
  refine run_seq ?_
  refine run_region ?_
  refine rl_v rfl rfl rfl (ov_move rfl rfl) ?_
  refine rl_v rfl rfl rfl (ov_len rfl Try.underlying22 rfl) ?_
  refine rl_v rfl rfl rfl (ov_move rfl rfl) ?_
  refine rl_v rfl rfl rfl (ov_neq rfl rfl rfl) ?_
  refine rl_nil ?_
  first | refine run_cond_dec rfl (fun h1 => ?_) (fun h1 => ?_) | refine run_cond rfl (fun h1 => ?_) (fun h1 => ?_)
  · refine run_seq ?_
    refine run_region ?_
    refine rl_v rfl rfl rfl (ov_assign rfl rfl) ?_
    refine rl_nil ?_
    refine run_ret Try.func76 (res1 Try.results76 rfl) ?_
    exact ⟨⟨false, rfl, ⟨fun h => Bool.noConfusion h, fun ⟨h, _⟩ => by omega⟩⟩, hO0.below⟩
  · refine run_skip ?_
    refine run_seq ?_
    refine run_seq ?_
    refine run_region ?_
    refine rl_v rfl rfl rfl (ov_assign rfl rfl) ?_
    refine rl_nil ?_
    refine run_block ?_
    refine Run.keep [0, 1, 5] (F' := [(0, _), (1, _), (5, _)]) rfl ?_
    refine run_loop1 (fun (k : Int) => [(5, .int .i64 k)]) [0, 1] (fun (k : Int) (w1 : World) => 0 ≤ k ∧ k ≤ n ∧ (∀ r : Int, 0 ≤ r → r < k → (L r : Int) = k0) ∧ Own w.heap.size w w1 []) (fun (k : Int) => ((n : Int) - k).toNat) (0) ?_ (And.intro (by first | with_reducible rfl | exact slot_int rfl (by first | omega) | rfl) (And.intro rfl (And.intro rfl trivial))) ?_
    · exact ⟨by omega, by omega, fun r h0 h1 => by omega, hO0⟩
    intro k w1 hIw1 ih2
    obtain ⟨hk0, hk1, hL, hO⟩ := hIw1
    show Run _ _ _ _ [(5, _), (0, _), (1, _)] _ _
    refine run_seq ?_
    refine run_seq ?_
    refine run_region ?_
    refine rl_v rfl rfl rfl (ov_move rfl rfl) ?_
    refine rl_v rfl rfl rfl (ov_move rfl rfl) ?_
    refine rl_v rfl rfl rfl (ov_lss rfl rfl rfl) ?_
    refine rl_nil ?_
    first | refine run_cond_dec rfl (fun h2 => ?_) (fun h2 => ?_) | refine run_cond rfl (fun h2 => ?_) (fun h2 => ?_)
    · refine run_skip ?_
      refine run_seq ?_
      refine run_block ?_
      refine run_seq ?_
      refine run_region ?_
      refine rl_v rfl rfl rfl (ov_move rfl rfl) ?_
      refine rl_v rfl rfl rfl (ov_move rfl rfl) ?_
      refine rl_v rfl rfl rfl (ov_index1 rfl Try.underlying22 (by kernel_rfl) rfl rfl ⟨by omega, by omega⟩ (by first | rfl | exact hga (by omega) | exact hra _ (by omega) (by omega) (by omega))) ?_
      refine rl_v rfl rfl rfl (ov_load rfl Try.underlying23 rfl rfl (by first | exact hrow _ hO.below _ (by omega) (by omega) | exact hel _ hO.below _ (by omega) (by omega) _ (by omega) (by omega) | exact hO.cellI 0 rfl _ (by omega) (by omega) | exact hO.cellL 0 rfl rfl | exact hO.cellI 1 rfl _ (by omega) (by omega) | exact hO.cellL 1 rfl rfl | exact hO.cellI 2 rfl _ (by omega) (by omega) | exact hO.cellL 2 rfl rfl | exact hO.cellI 3 rfl _ (by omega) (by omega) | exact hO.cellL 3 rfl rfl | exact hO.cellI 4 rfl _ (by omega) (by omega) | exact hO.cellL 4 rfl rfl | exact hO.cellI 5 rfl _ (by omega) (by omega) | exact hO.cellL 5 rfl rfl)) ?_
      refine rl_v rfl rfl rfl (ov_len rfl Try.underlying23 rfl) ?_
      refine rl_v rfl rfl rfl (ov_move rfl rfl) ?_
      refine rl_v rfl rfl rfl (ov_neq rfl rfl rfl) ?_
      refine rl_nil ?_
      first | refine run_cond_dec rfl (fun h3 => ?_) (fun h3 => ?_) | refine run_cond rfl (fun h3 => ?_) (fun h3 => ?_)
      · refine run_seq ?_
        refine run_region ?_
        refine rl_v rfl rfl rfl (ov_assign rfl rfl) ?_
        refine rl_nil ?_
        refine run_ret Try.func76 (res1 Try.results76 rfl) ?_
        exact ⟨⟨false, rfl, ⟨fun h => Bool.noConfusion h, fun ⟨_, h⟩ => absurd (h k hk0 (by omega)) h3⟩⟩, hO.below⟩
      · refine run_skip ?_
        refine run_inBlock ?_
        refine run_region ?_
        refine rl_v rfl rfl rfl (ov_move rfl rfl) ?_
        refine rl_v rfl rfl rfl (ov_add rfl rfl rfl (by omega)) ?_
        refine rl_v rfl rfl rfl (ov_assign rfl rfl) ?_
        refine rl_nil ?_
        refine Run.use (ih2 _ _ ?_ ?_) (And.intro (by first | with_reducible rfl | exact slot_int rfl (by first | omega) | rfl) (And.intro rfl (And.intro rfl trivial)))
        · first | omega | (dsimp only; omega)
        · exact ⟨by omega, by omega, fun r h0 h1 => (by omega : r = k ∨ r < k).elim (fun e => by rw [e]; omega) (fun e => hL r h0 e), hO⟩
    · refine run_exit rfl ?_
      refine run_seq ?_
      refine run_region ?_
      refine rl_v rfl rfl rfl (ov_assign rfl rfl) ?_
      refine rl_nil ?_
      refine run_ret Try.func76 (res1 Try.results76 rfl) ?_
      exact ⟨⟨true, rfl, ⟨fun _ => ⟨by omega, fun i h0 h1' => hL i h0 (by omega)⟩, fun _ => rfl⟩⟩, hO.below⟩

theorem refCheck_any (ao : Option Addr) (n c : Nat) (L : Int → Nat) (D : Int → Int → Int) (w : World) (hn : n ≤ 1000000000000000)
    (h : ITab w.heap.size w ao n L (fun r c => .int .i64 (D r c))) :
    Calls Try.prog 57 #[.slice ao n c] w fun e w' => e = .returned (.int .i64 (chk n L D)) ∧ Below w.heap.size w w' := by
  obtain ⟨A, C, RB, RO, gb, go, hga, hrow, hra, hel, _⟩ := h.open
  refine calls_of_run (F := [(0, _)]) Try.func57 rfl Try.ntmps57 rfl rfl ?_
  have hO0 := Own.init w
  refine run_seq ?_
  refine run_region ?_
  refine rl_v rfl rfl rfl (ov_assign rfl rfl) ?_
  refine rl_nil ?_
  refine run_seq ?_
  refine run_seq ?_
  refine run_region ?_
  refine rl_v rfl rfl rfl (ov_move rfl rfl) ?_
  refine rl_v rfl rfl rfl (ov_len rfl Try.underlying22 rfl) ?_
  refine rl_v rfl rfl rfl (ov_eql rfl rfl rfl) ?_
  refine rl_nil ?_
  first | refine run_cond_dec rfl (fun h1 => ?_) (fun h1 => ?_) | refine run_cond rfl (fun h1 => ?_) (fun h1 => ?_)
  · refine run_seq ?_
    refine run_region ?_
    refine rl_v rfl rfl rfl (ov_assign rfl rfl) ?_
    refine rl_nil ?_
    refine run_ret Try.func57 (res1 Try.results57 rfl) ?_
    exact ⟨by rw [chk_1 (by omega)], hO0.below⟩
  · refine run_skip ?_
    refine run_seq ?_
    refine run_seq ?_
    refine run_region ?_
    refine rl_v rfl rfl rfl (ov_move rfl rfl) ?_
    refine rl_v rfl rfl rfl (ov_len rfl Try.underlying22 rfl) ?_
    refine rl_v rfl rfl rfl (ov_gtr rfl rfl rfl) ?_
    refine rl_nil ?_
    first | refine run_cond_dec rfl (fun h2 => ?_) (fun h2 => ?_) | refine run_cond rfl (fun h2 => ?_) (fun h2 => ?_)
    · refine run_seq ?_
      refine run_region ?_
      refine rl_v rfl rfl rfl (ov_assign rfl rfl) ?_
      refine rl_nil ?_
      refine run_ret Try.func57 (res1 Try.results57 rfl) ?_
      exact ⟨by rw [chk_2 (by omega)], hO0.below⟩
    · refine run_skip ?_
      refine run_seq ?_
      refine run_seq ?_
      refine run_region ?_
      refine rl_v rfl rfl rfl (ov_move rfl rfl) ?_
      refine rl_v rfl rfl rfl (ov_move rfl rfl) ?_
      refine rl_v rfl rfl rfl (ov_len rfl Try.underlying22 rfl) ?_
      refine rl_call callable_76 rfl rfl rfl rfl rfl rfl (square_any ao n c n L D _ hn (h.later hO0.below)) (fun e1 w2 hp3 => ?_)
      obtain ⟨⟨b, rfl, hb1⟩, hb⟩ := hp3
      refine ⟨_, rfl, ?_⟩
      have hO4 := hO0.past hb
      refine rl_v rfl rfl rfl (ov_not rfl rfl) ?_
      refine rl_nil ?_
      first | refine run_cond_dec rfl (fun h3 => ?_) (fun h3 => ?_) | refine run_cond rfl (fun h3 => ?_) (fun h3 => ?_)
      · have hx : ¬ ∀ r : Int, 0 ≤ r → r < n → (L r : Int) = n := fun hx => by rw [hb1.2 ⟨rfl, hx⟩] at h3; cases h3
        obtain ⟨r, hr⟩ := Classical.not_forall.1 hx
        obtain ⟨r0, hr⟩ := Classical.not_imp.1 hr
        obtain ⟨r1, hr⟩ := Classical.not_imp.1 hr
        refine run_seq ?_
        refine run_region ?_
        refine rl_v rfl rfl rfl (ov_assign rfl rfl) ?_
        refine rl_nil ?_
        refine run_ret Try.func57 (res1 Try.results57 rfl) ?_
        exact ⟨by rw [chk_7 (by omega) (by omega) r r0 r1 hr], hO4.below⟩
      · have hbt : b = true := by cases b; exact absurd h3 (by decide); rfl
        have hL' := (hb1.1 hbt).2
        refine run_skip ?_
        refine run_seq ?_
        refine run_seq ?_
        refine run_region ?_
        refine rl_v rfl rfl rfl (ov_assign rfl rfl) ?_
        refine rl_nil ?_
        refine run_block ?_
        refine Run.keep [0, 3] (F' := [(0, _), (3, _)]) rfl ?_
        refine run_loop1 (fun (k2 : Int) => [(3, .int .i64 k2)]) [0] (fun (k2 : Int) (w5 : World) => 0 ≤ k2 ∧ k2 ≤ n ∧ (∀ r c : Int, 0 ≤ r → r < k2 → 0 ≤ c → c < n → ¬ (D r c < 0 ∨ 1000000 < D r c ∨ r = c ∧ D r c ≠ 0)) ∧ Own w.heap.size w w5 []) (fun (k2 : Int) => ((n : Int) - k2).toNat) (0) ?_ (And.intro (by first | with_reducible rfl | exact slot_int rfl (by first | omega) | rfl) (And.intro rfl trivial)) ?_
        · exact ⟨by omega, by omega, fun r c h0 h1 => by omega, hO4⟩
        intro k2 w5 hIw5 ih6
        obtain ⟨hk0', hk1', hD, hO⟩ := hIw5
        show Run _ _ _ _ [(3, _), (0, _)] _ _
        refine run_seq ?_
        refine run_seq ?_
        refine run_region ?_
        refine rl_v rfl rfl rfl (ov_move rfl rfl) ?_
        refine rl_v rfl rfl rfl (ov_move rfl rfl) ?_
        refine rl_v rfl rfl rfl (ov_len rfl Try.underlying22 rfl) ?_
        refine rl_v rfl rfl rfl (ov_lss rfl rfl rfl) ?_
        refine rl_nil ?_
        first | refine run_cond_dec rfl (fun h5 => ?_) (fun h5 => ?_) | refine run_cond rfl (fun h5 => ?_) (fun h5 => ?_)
        · have hLk := hL' k2 hk0' h5
          refine run_skip ?_
          refine run_seq ?_
          refine run_block ?_
          refine run_seq ?_
          refine run_region ?_
          refine rl_v rfl rfl rfl (ov_assign rfl rfl) ?_
          refine rl_nil ?_
          refine run_block ?_
          refine Run.keep [0, 3, 4] (F' := [(0, _), (3, _), (4, _)]) rfl ?_
          refine run_loop1 (fun (j : Int) => [(4, .int .i64 j)]) [0, 3] (fun (j : Int) (w7 : World) => 0 ≤ j ∧ j ≤ n ∧ (∀ c : Int, 0 ≤ c → c < j → ¬ (D k2 c < 0 ∨ 1000000 < D k2 c ∨ k2 = c ∧ D k2 c ≠ 0)) ∧ Own w.heap.size w w7 []) (fun (j : Int) => ((n : Int) - j).toNat) (0) ?_ (And.intro (by first | with_reducible rfl | exact slot_int rfl (by first | omega) | rfl) (And.intro rfl (And.intro rfl trivial))) ?_
          · exact ⟨by omega, by omega, fun c h0 h1 => by omega, hO⟩
          intro j w7 hIw7 ih8
          obtain ⟨hj0, hj1, hE, hO2⟩ := hIw7
          show Run _ _ _ _ [(4, _), (0, _), (3, _)] _ _
          refine run_seq ?_
          refine run_seq ?_
          refine run_region ?_
          refine rl_v rfl rfl rfl (ov_move rfl rfl) ?_
          refine rl_v rfl rfl rfl (ov_move rfl rfl) ?_
          refine rl_v rfl rfl rfl (ov_len rfl Try.underlying22 rfl) ?_
          refine rl_v rfl rfl rfl (ov_lss rfl rfl rfl) ?_
          refine rl_nil ?_
          first | refine run_cond_dec rfl (fun h6 => ?_) (fun h6 => ?_) | refine run_cond rfl (fun h6 => ?_) (fun h6 => ?_)
          · refine run_skip ?_
            refine run_seq ?_
            refine run_block ?_
            refine run_seq ?_
            refine run_region_join 60 (.bool (decide (D k2 j < 0 ∨ 1000000 < D k2 j ∨ k2 = j ∧ D k2 j ≠ 0))) [0, 3, 4] (fun hk9 => ?_) ?_
            · refine rl_v rfl rfl rfl (ov_move rfl rfl) ?_
              refine rl_v rfl rfl rfl (ov_move rfl rfl) ?_
              refine rl_v rfl rfl rfl (ov_index1 rfl Try.underlying22 (by kernel_rfl) rfl rfl ⟨by omega, by omega⟩ (by first | rfl | exact hga (by omega) | exact hra _ (by omega) (by omega) (by omega))) ?_
              refine rl_v rfl rfl rfl (ov_load rfl Try.underlying23 rfl rfl (by first | exact hrow _ hO2.below _ (by omega) (by omega) | exact hel _ hO2.below _ (by omega) (by omega) _ (by omega) (by omega) | exact hO2.cellI 0 rfl _ (by omega) (by omega) | exact hO2.cellL 0 rfl rfl | exact hO2.cellI 1 rfl _ (by omega) (by omega) | exact hO2.cellL 1 rfl rfl | exact hO2.cellI 2 rfl _ (by omega) (by omega) | exact hO2.cellL 2 rfl rfl | exact hO2.cellI 3 rfl _ (by omega) (by omega) | exact hO2.cellL 3 rfl rfl | exact hO2.cellI 4 rfl _ (by omega) (by omega) | exact hO2.cellL 4 rfl rfl | exact hO2.cellI 5 rfl _ (by omega) (by omega) | exact hO2.cellL 5 rfl rfl)) ?_
              refine rl_v rfl rfl rfl (ov_move rfl rfl) ?_
              refine rl_v rfl rfl rfl (ov_index1 rfl Try.underlying23 (by kernel_rfl) rfl rfl ⟨by omega, by omega⟩ (by first | rfl | exact hga (by omega) | exact hra _ (by omega) (by omega) (by omega))) ?_
              refine rl_v rfl rfl rfl (ov_load rfl Try.underlying2 rfl rfl (by first | exact hrow _ hO2.below _ (by omega) (by omega) | exact hel _ hO2.below _ (by omega) (by omega) _ (by omega) (by omega) | exact hO2.cellI 0 rfl _ (by omega) (by omega) | exact hO2.cellL 0 rfl rfl | exact hO2.cellI 1 rfl _ (by omega) (by omega) | exact hO2.cellL 1 rfl rfl | exact hO2.cellI 2 rfl _ (by omega) (by omega) | exact hO2.cellL 2 rfl rfl | exact hO2.cellI 3 rfl _ (by omega) (by omega) | exact hO2.cellL 3 rfl rfl | exact hO2.cellI 4 rfl _ (by omega) (by omega) | exact hO2.cellL 4 rfl rfl | exact hO2.cellI 5 rfl _ (by omega) (by omega) | exact hO2.cellL 5 rfl rfl)) ?_
              refine rl_v rfl rfl rfl (ov_lss rfl rfl rfl) ?_
              refine rl_v rfl rfl rfl (ov_move rfl rfl) ?_
              first | refine rl_split_dec 36 rfl (fun hg10 => ?_) (fun hg10 => ?_) | refine rl_split 36 rfl (fun hg10 => ?_) (fun hg10 => ?_)
              · refine rl_gskip rfl rfl rfl rfl rfl rfl ?_
                refine rl_gskip rfl rfl rfl rfl rfl rfl ?_
                refine rl_gskip rfl rfl rfl rfl rfl rfl ?_
                refine rl_gskip rfl rfl rfl rfl rfl rfl ?_
                refine rl_gskip rfl rfl rfl rfl rfl rfl ?_
                refine rl_gskip rfl rfl rfl rfl rfl rfl ?_
                refine rl_gskip rfl rfl rfl rfl rfl rfl ?_
                refine rl_gskip rfl rfl rfl rfl rfl rfl ?_
                refine rl_v rfl rfl rfl (ov_pick_t rfl rfl rfl) ?_
                refine rl_v rfl rfl rfl (ov_move rfl rfl) ?_
                refine rl_gskip rfl rfl rfl rfl rfl rfl ?_
                refine rl_gskip rfl rfl rfl rfl rfl rfl ?_
                refine rl_gskip rfl rfl rfl rfl rfl rfl ?_
                refine rl_gskip rfl rfl rfl rfl rfl rfl ?_
                refine rl_gundef rfl rfl rfl rfl rfl ?_
                refine rl_gundef rfl rfl rfl rfl rfl ?_
                refine rl_gundef rfl rfl rfl rfl rfl ?_
                refine rl_gundef rfl rfl rfl rfl rfl ?_
                refine rl_gundef rfl rfl rfl rfl rfl ?_
                refine rl_gundef rfl rfl rfl rfl rfl ?_
                refine rl_gundef rfl rfl rfl rfl rfl ?_
                refine rl_gundef rfl rfl rfl rfl rfl ?_
                refine rl_gskip rfl rfl rfl rfl rfl rfl ?_
                refine rl_v rfl rfl rfl (ov_pick_t rfl rfl rfl) ?_
                refine rl_nil (hk9 _ (jbt rfl (by first | omega | grind)) (And.intro rfl (And.intro rfl (And.intro rfl trivial))))
              · refine rl_gv rfl rfl rfl rfl rfl (ov_move rfl rfl) ?_
                refine rl_gv rfl rfl rfl rfl rfl (ov_move rfl rfl) ?_
                refine rl_gv rfl rfl rfl rfl rfl (ov_index1 rfl Try.underlying22 (by kernel_rfl) rfl rfl ⟨by omega, by omega⟩ (by first | rfl | exact hga (by omega) | exact hra _ (by omega) (by omega) (by omega))) ?_
                refine rl_gv rfl rfl rfl rfl rfl (ov_load rfl Try.underlying23 rfl rfl (by first | exact hrow _ hO2.below _ (by omega) (by omega) | exact hel _ hO2.below _ (by omega) (by omega) _ (by omega) (by omega) | exact hO2.cellI 0 rfl _ (by omega) (by omega) | exact hO2.cellL 0 rfl rfl | exact hO2.cellI 1 rfl _ (by omega) (by omega) | exact hO2.cellL 1 rfl rfl | exact hO2.cellI 2 rfl _ (by omega) (by omega) | exact hO2.cellL 2 rfl rfl | exact hO2.cellI 3 rfl _ (by omega) (by omega) | exact hO2.cellL 3 rfl rfl | exact hO2.cellI 4 rfl _ (by omega) (by omega) | exact hO2.cellL 4 rfl rfl | exact hO2.cellI 5 rfl _ (by omega) (by omega) | exact hO2.cellL 5 rfl rfl)) ?_
                refine rl_gv rfl rfl rfl rfl rfl (ov_move rfl rfl) ?_
                refine rl_gv rfl rfl rfl rfl rfl (ov_index1 rfl Try.underlying23 (by kernel_rfl) rfl rfl ⟨by omega, by omega⟩ (by first | rfl | exact hga (by omega) | exact hra _ (by omega) (by omega) (by omega))) ?_
                refine rl_gv rfl rfl rfl rfl rfl (ov_load rfl Try.underlying2 rfl rfl (by first | exact hrow _ hO2.below _ (by omega) (by omega) | exact hel _ hO2.below _ (by omega) (by omega) _ (by omega) (by omega) | exact hO2.cellI 0 rfl _ (by omega) (by omega) | exact hO2.cellL 0 rfl rfl | exact hO2.cellI 1 rfl _ (by omega) (by omega) | exact hO2.cellL 1 rfl rfl | exact hO2.cellI 2 rfl _ (by omega) (by omega) | exact hO2.cellL 2 rfl rfl | exact hO2.cellI 3 rfl _ (by omega) (by omega) | exact hO2.cellL 3 rfl rfl | exact hO2.cellI 4 rfl _ (by omega) (by omega) | exact hO2.cellL 4 rfl rfl | exact hO2.cellI 5 rfl _ (by omega) (by omega) | exact hO2.cellL 5 rfl rfl)) ?_
                refine rl_gv rfl rfl rfl rfl rfl (ov_gtr rfl rfl rfl) ?_
                refine rl_v rfl rfl rfl (ov_pick_f rfl rfl rfl) ?_
                refine rl_v rfl rfl rfl (ov_move rfl rfl) ?_
                first | refine rl_split_dec 46 rfl (fun hg11 => ?_) (fun hg11 => ?_) | refine rl_split 46 rfl (fun hg11 => ?_) (fun hg11 => ?_)
                · refine rl_gskip rfl rfl rfl rfl rfl rfl ?_
                  refine rl_gskip rfl rfl rfl rfl rfl rfl ?_
                  refine rl_gskip rfl rfl rfl rfl rfl rfl ?_
                  refine rl_gskip rfl rfl rfl rfl rfl rfl ?_
                  refine rl_gundef rfl rfl rfl rfl rfl ?_
                  refine rl_gundef rfl rfl rfl rfl rfl ?_
                  refine rl_gundef rfl rfl rfl rfl rfl ?_
                  refine rl_gundef rfl rfl rfl rfl rfl ?_
                  refine rl_gundef rfl rfl rfl rfl rfl ?_
                  refine rl_gundef rfl rfl rfl rfl rfl ?_
                  refine rl_gundef rfl rfl rfl rfl rfl ?_
                  refine rl_gundef rfl rfl rfl rfl rfl ?_
                  refine rl_gskip rfl rfl rfl rfl rfl rfl ?_
                  refine rl_v rfl rfl rfl (ov_pick_t rfl rfl rfl) ?_
                  refine rl_nil (hk9 _ (jbt rfl (by first | omega | grind)) (And.intro rfl (And.intro rfl (And.intro rfl trivial))))
                · refine rl_gv rfl rfl rfl rfl rfl (ov_move rfl rfl) ?_
                  refine rl_gv rfl rfl rfl rfl rfl (ov_move rfl rfl) ?_
                  refine rl_gv rfl rfl rfl rfl rfl (ov_eql rfl rfl rfl) ?_
                  refine rl_gv rfl rfl rfl rfl rfl (ov_move rfl rfl) ?_
                  first | refine rl_split_dec 50 rfl (fun hg12 => ?_) (fun hg12 => ?_) | refine rl_split 50 rfl (fun hg12 => ?_) (fun hg12 => ?_)
                  · refine rl_gv rfl rfl rfl rfl rfl (ov_move rfl rfl) ?_
                    refine rl_gv rfl rfl rfl rfl rfl (ov_move rfl rfl) ?_
                    refine rl_gv rfl rfl rfl rfl rfl (ov_index1 rfl Try.underlying22 (by kernel_rfl) rfl rfl ⟨by omega, by omega⟩ (by first | rfl | exact hga (by omega) | exact hra _ (by omega) (by omega) (by omega))) ?_
                    refine rl_gv rfl rfl rfl rfl rfl (ov_load rfl Try.underlying23 rfl rfl (by first | exact hrow _ hO2.below _ (by omega) (by omega) | exact hel _ hO2.below _ (by omega) (by omega) _ (by omega) (by omega) | exact hO2.cellI 0 rfl _ (by omega) (by omega) | exact hO2.cellL 0 rfl rfl | exact hO2.cellI 1 rfl _ (by omega) (by omega) | exact hO2.cellL 1 rfl rfl | exact hO2.cellI 2 rfl _ (by omega) (by omega) | exact hO2.cellL 2 rfl rfl | exact hO2.cellI 3 rfl _ (by omega) (by omega) | exact hO2.cellL 3 rfl rfl | exact hO2.cellI 4 rfl _ (by omega) (by omega) | exact hO2.cellL 4 rfl rfl | exact hO2.cellI 5 rfl _ (by omega) (by omega) | exact hO2.cellL 5 rfl rfl)) ?_
                    refine rl_gv rfl rfl rfl rfl rfl (ov_move rfl rfl) ?_
                    refine rl_gv rfl rfl rfl rfl rfl (ov_index1 rfl Try.underlying23 (by kernel_rfl) rfl rfl ⟨by omega, by omega⟩ (by first | rfl | exact hga (by omega) | exact hra _ (by omega) (by omega) (by omega))) ?_
                    refine rl_gv rfl rfl rfl rfl rfl (ov_load rfl Try.underlying2 rfl rfl (by first | exact hrow _ hO2.below _ (by omega) (by omega) | exact hel _ hO2.below _ (by omega) (by omega) _ (by omega) (by omega) | exact hO2.cellI 0 rfl _ (by omega) (by omega) | exact hO2.cellL 0 rfl rfl | exact hO2.cellI 1 rfl _ (by omega) (by omega) | exact hO2.cellL 1 rfl rfl | exact hO2.cellI 2 rfl _ (by omega) (by omega) | exact hO2.cellL 2 rfl rfl | exact hO2.cellI 3 rfl _ (by omega) (by omega) | exact hO2.cellL 3 rfl rfl | exact hO2.cellI 4 rfl _ (by omega) (by omega) | exact hO2.cellL 4 rfl rfl | exact hO2.cellI 5 rfl _ (by omega) (by omega) | exact hO2.cellL 5 rfl rfl)) ?_
                    refine rl_gv rfl rfl rfl rfl rfl (ov_neq rfl rfl rfl) ?_
                    refine rl_gv rfl rfl rfl rfl rfl (ov_pick_t rfl rfl rfl) ?_
                    refine rl_v rfl rfl rfl (ov_pick_f rfl rfl rfl) ?_
                    refine rl_nil (hk9 _ (jbd rfl (by first | omega | grind)) (And.intro rfl (And.intro rfl (And.intro rfl trivial))))
                  · refine rl_gskip rfl rfl rfl rfl rfl rfl ?_
                    refine rl_gskip rfl rfl rfl rfl rfl rfl ?_
                    refine rl_gskip rfl rfl rfl rfl rfl rfl ?_
                    refine rl_gskip rfl rfl rfl rfl rfl rfl ?_
                    refine rl_gskip rfl rfl rfl rfl rfl rfl ?_
                    refine rl_gskip rfl rfl rfl rfl rfl rfl ?_
                    refine rl_gskip rfl rfl rfl rfl rfl rfl ?_
                    refine rl_gskip rfl rfl rfl rfl rfl rfl ?_
                    refine rl_gv rfl rfl rfl rfl rfl (ov_pick_f rfl rfl rfl) ?_
                    refine rl_v rfl rfl rfl (ov_pick_f rfl rfl rfl) ?_
                    refine rl_nil (hk9 _ (jbf rfl (by first | omega | grind)) (And.intro rfl (And.intro rfl (And.intro rfl trivial))))
            · show Run _ _ _ _ [(60, _), (0, _), (3, _), (4, _)] _ _
              first | refine run_cond_dec rfl (fun h7 => ?_) (fun h7 => ?_) | refine run_cond rfl (fun h7 => ?_) (fun h7 => ?_)
              · refine run_seq ?_
                refine run_region ?_
                refine rl_v rfl rfl rfl (ov_assign rfl rfl) ?_
                refine rl_nil ?_
                refine run_ret Try.func57 (res1 Try.results57 rfl) ?_
                exact ⟨by rw [chk_60 (by omega) (by omega) hL' k2 j hk0' (by omega) hj0 (by omega) h7], hO2.below⟩
              · refine run_skip ?_
                refine run_inBlock ?_
                refine run_region ?_
                refine rl_v rfl rfl rfl (ov_move rfl rfl) ?_
                refine rl_v rfl rfl rfl (ov_add rfl rfl rfl (by omega)) ?_
                refine rl_v rfl rfl rfl (ov_assign rfl rfl) ?_
                refine rl_nil ?_
                refine Run.use (ih8 _ _ ?_ ?_) (And.intro (by first | with_reducible rfl | exact slot_int rfl (by first | omega) | rfl) (And.intro rfl (And.intro rfl trivial)))
                · first | omega | (dsimp only; omega)
                · exact ⟨by omega, by omega, fun c h0 h1 => (by omega : c = j ∨ c < j).elim (fun e => by rw [e]; exact h7) (fun e => hE c h0 e), hO2⟩
          · refine run_exit rfl ?_
            refine run_inBlock ?_
            refine run_region ?_
            refine rl_v rfl rfl rfl (ov_move rfl rfl) ?_
            refine rl_v rfl rfl rfl (ov_add rfl rfl rfl (by omega)) ?_
            refine rl_v rfl rfl rfl (ov_assign rfl rfl) ?_
            refine rl_nil ?_
            refine Run.use (ih6 _ _ ?_ ?_) (And.intro (by first | with_reducible rfl | exact slot_int rfl (by first | omega) | rfl) (And.intro rfl trivial))
            · first | omega | (dsimp only; omega)
            · exact ⟨by omega, by omega, fun r c h0 h1 h2 h3 => (by omega : r = k2 ∨ r < k2).elim (fun e => by rw [e]; exact hE c h2 (by omega)) (fun e => hD r c h0 e h2 h3), hO2⟩
        · refine run_exit rfl ?_
          refine run_seq ?_
          refine run_region ?_
          refine rl_v rfl rfl rfl (ov_assign rfl rfl) ?_
          refine rl_nil ?_
          refine run_ret Try.func57 (res1 Try.results57 rfl) ?_
          exact ⟨by rw [chk_0 (by omega) (by omega) hL' (fun r c a b a' b' => hD r c a (by omega) a' b')], hO.below⟩

theorem refCheckCrisis_any (ao ac : Option Addr) (n c m cm : Nat) (L : Int → Nat) (D : Int → Int → Int) (cash : Int → Int) (w : World) (hn : n ≤ 1000000000000000) (_ : m ≤ 1000000000000000)
    (h : ITab w.heap.size w ao n L (fun r c => .int .i64 (D r c))) (h2 : IAt w.heap.size w ac m (fun i => .int .i64 (cash i))) :
    Calls Try.prog 55 #[.agg [.slice ao n c, .slice ac m cm].toArray] w fun e w' => e = .returned (.int .i64 (chkC n L D m cash)) ∧ Below w.heap.size w w' := by
  obtain ⟨qb, qo, hqa, hq⟩ := h2.open
  refine calls_of_run (F := [(0, _)]) Try.func55 rfl Try.ntmps55 rfl rfl ?_
  have hO0 := Own.init w
  refine run_seq ?_
  refine run_region ?_
  refine rl_ow rfl (ow_box _ rfl rfl rfl rfl rfl hO0) ?_
  rintro _ w1 ⟨b, rfl, hO2, hs3⟩
  refine rl_v rfl rfl rfl (ov_assign rfl rfl) ?_
  refine rl_nil ?_
  refine run_seq ?_
  refine run_seq ?_
  refine run_region ?_
  refine rl_v rfl rfl rfl (ov_fieldS rfl Try.underlying35 rfl (fo := 0) rfl (by kernel_rfl) rfl) ?_
  refine rl_v rfl rfl rfl (ov_load rfl Try.underlying22 rfl rfl (by first | exact hO2.cellI 0 rfl _ (by omega) (by omega) | exact hO2.cellL 0 rfl rfl | exact hO2.cellI 1 rfl _ (by omega) (by omega) | exact hO2.cellL 1 rfl rfl | exact hO2.cellI 2 rfl _ (by omega) (by omega) | exact hO2.cellL 2 rfl rfl | exact hO2.cellI 3 rfl _ (by omega) (by omega) | exact hO2.cellL 3 rfl rfl | exact hO2.cellI 4 rfl _ (by omega) (by omega) | exact hO2.cellL 4 rfl rfl | exact hO2.cellI 5 rfl _ (by omega) (by omega) | exact hO2.cellL 5 rfl rfl)) ?_
  refine rl_call callable_57 rfl rfl rfl rfl rfl rfl (refCheck_any ao n c L D _ hn (h.later hO2.below)) (fun e4 w5 hp6 => ?_)
  obtain ⟨rfl, hb⟩ := hp6
  refine ⟨_, rfl, ?_⟩
  have hO7 := hO2.past hb
  refine rl_v rfl rfl rfl (ov_assign rfl rfl) ?_
  refine rl_nil ?_
  refine run_seq ?_
  refine run_region ?_
  refine rl_v rfl rfl rfl (ov_move rfl rfl) ?_
  refine rl_v rfl rfl rfl (ov_neq rfl rfl rfl) ?_
  refine rl_nil ?_
  first | refine run_cond_dec rfl (fun h1 => ?_) (fun h1 => ?_) | refine run_cond rfl (fun h1 => ?_) (fun h1 => ?_)
  · refine run_seq ?_
    refine run_region ?_
    refine rl_v rfl rfl rfl (ov_move rfl rfl) ?_
    refine rl_v rfl rfl rfl (ov_assign rfl rfl) ?_
    refine rl_nil ?_
    refine run_ret Try.func55 (res1 Try.results55 rfl) ?_
    exact ⟨by unfold chkC; rw [if_pos h1], hO7.below⟩
  · refine run_skip ?_
    refine run_seq ?_
    refine run_seq ?_
    refine run_region ?_
    refine rl_v rfl rfl rfl (ov_fieldS rfl Try.underlying35 rfl (fo := 1) rfl (by kernel_rfl) rfl) ?_
    refine rl_v rfl rfl rfl (ov_load rfl Try.underlying23 rfl rfl (by first | exact hq _ hO7.below _ (by omega) (by omega) | exact hO7.cellI 0 rfl _ (by omega) (by omega) | exact hO7.cellL 0 rfl rfl | exact hO7.cellI 1 rfl _ (by omega) (by omega) | exact hO7.cellL 1 rfl rfl | exact hO7.cellI 2 rfl _ (by omega) (by omega) | exact hO7.cellL 2 rfl rfl | exact hO7.cellI 3 rfl _ (by omega) (by omega) | exact hO7.cellL 3 rfl rfl | exact hO7.cellI 4 rfl _ (by omega) (by omega) | exact hO7.cellL 4 rfl rfl | exact hO7.cellI 5 rfl _ (by omega) (by omega) | exact hO7.cellL 5 rfl rfl)) ?_
    refine rl_v rfl rfl rfl (ov_len rfl Try.underlying23 rfl) ?_
    refine rl_v rfl rfl rfl (ov_fieldS rfl Try.underlying35 rfl (fo := 0) rfl (by kernel_rfl) rfl) ?_
    refine rl_v rfl rfl rfl (ov_load rfl Try.underlying22 rfl rfl (by first | exact hq _ hO7.below _ (by omega) (by omega) | exact hO7.cellI 0 rfl _ (by omega) (by omega) | exact hO7.cellL 0 rfl rfl | exact hO7.cellI 1 rfl _ (by omega) (by omega) | exact hO7.cellL 1 rfl rfl | exact hO7.cellI 2 rfl _ (by omega) (by omega) | exact hO7.cellL 2 rfl rfl | exact hO7.cellI 3 rfl _ (by omega) (by omega) | exact hO7.cellL 3 rfl rfl | exact hO7.cellI 4 rfl _ (by omega) (by omega) | exact hO7.cellL 4 rfl rfl | exact hO7.cellI 5 rfl _ (by omega) (by omega) | exact hO7.cellL 5 rfl rfl)) ?_
    refine rl_v rfl rfl rfl (ov_len rfl Try.underlying22 rfl) ?_
    refine rl_v rfl rfl rfl (ov_neq rfl rfl rfl) ?_
    refine rl_nil ?_
    first | refine run_cond_dec rfl (fun h3 => ?_) (fun h3 => ?_) | refine run_cond rfl (fun h3 => ?_) (fun h3 => ?_)
    · refine run_seq ?_
      refine run_region ?_
      refine rl_v rfl rfl rfl (ov_assign rfl rfl) ?_
      refine rl_nil ?_
      refine run_ret Try.func55 (res1 Try.results55 rfl) ?_
      exact ⟨by unfold chkC; rw [if_neg (by simpa using h1), if_pos (by omega)], hO7.below⟩
    · refine run_skip ?_
      refine run_seq ?_
      refine run_seq ?_
      refine run_region ?_
      refine rl_v rfl rfl rfl (ov_assign rfl rfl) ?_
      refine rl_nil ?_
      refine run_block ?_
      refine Run.keep [1, 4] (F' := [(1, _), (4, _)]) rfl ?_
      refine run_loop1 (fun (k : Int) => [(4, .int .i64 k)]) [1] (fun (k : Int) (w8 : World) => 0 ≤ k ∧ k ≤ m ∧ (∀ i : Int, 0 ≤ i → i < k → ¬ (cash i < 0 ∨ 1000000 < cash i)) ∧ Own w.heap.size w w8 [some (lch b 35 [.slice ao n c, .slice ac m cm])]) (fun (k : Int) => ((m : Int) - k).toNat) (0) ?_ (And.intro (by first | with_reducible rfl | exact slot_int rfl (by first | omega) | rfl) (And.intro rfl trivial)) ?_
      · exact ⟨by omega, by omega, fun i i0 i1 => by omega, hO7⟩
      intro k w8 hIw8 ih9
      obtain ⟨hk0, hk1, hall, hO⟩ := hIw8
      show Run _ _ _ _ [(4, _), (1, _)] _ _
      refine run_seq ?_
      refine run_seq ?_
      refine run_region ?_
      refine rl_v rfl rfl rfl (ov_move rfl rfl) ?_
      refine rl_v rfl rfl rfl (ov_fieldS rfl Try.underlying35 rfl (fo := 1) rfl (by kernel_rfl) rfl) ?_
      refine rl_v rfl rfl rfl (ov_load rfl Try.underlying23 rfl rfl (by first | exact hq _ hO.below _ (by omega) (by omega) | exact hO.cellI 0 rfl _ (by omega) (by omega) | exact hO.cellL 0 rfl rfl | exact hO.cellI 1 rfl _ (by omega) (by omega) | exact hO.cellL 1 rfl rfl | exact hO.cellI 2 rfl _ (by omega) (by omega) | exact hO.cellL 2 rfl rfl | exact hO.cellI 3 rfl _ (by omega) (by omega) | exact hO.cellL 3 rfl rfl | exact hO.cellI 4 rfl _ (by omega) (by omega) | exact hO.cellL 4 rfl rfl | exact hO.cellI 5 rfl _ (by omega) (by omega) | exact hO.cellL 5 rfl rfl)) ?_
      refine rl_v rfl rfl rfl (ov_len rfl Try.underlying23 rfl) ?_
      refine rl_v rfl rfl rfl (ov_lss rfl rfl rfl) ?_
      refine rl_nil ?_
      first | refine run_cond_dec rfl (fun h4 => ?_) (fun h4 => ?_) | refine run_cond rfl (fun h4 => ?_) (fun h4 => ?_)
      · refine run_skip ?_
        refine run_seq ?_
        refine run_block ?_
        refine run_seq ?_
        refine run_region_join 38 (.bool (decide (cash k < 0 ∨ 1000000 < cash k))) [1, 4] (fun hk10 => ?_) ?_
        · refine rl_v rfl rfl rfl (ov_fieldS rfl Try.underlying35 rfl (fo := 1) rfl (by kernel_rfl) rfl) ?_
          refine rl_v rfl rfl rfl (ov_load rfl Try.underlying23 rfl rfl (by first | exact hq _ hO.below _ (by omega) (by omega) | exact hO.cellI 0 rfl _ (by omega) (by omega) | exact hO.cellL 0 rfl rfl | exact hO.cellI 1 rfl _ (by omega) (by omega) | exact hO.cellL 1 rfl rfl | exact hO.cellI 2 rfl _ (by omega) (by omega) | exact hO.cellL 2 rfl rfl | exact hO.cellI 3 rfl _ (by omega) (by omega) | exact hO.cellL 3 rfl rfl | exact hO.cellI 4 rfl _ (by omega) (by omega) | exact hO.cellL 4 rfl rfl | exact hO.cellI 5 rfl _ (by omega) (by omega) | exact hO.cellL 5 rfl rfl)) ?_
          refine rl_v rfl rfl rfl (ov_move rfl rfl) ?_
          refine rl_v rfl rfl rfl (ov_index1 rfl Try.underlying23 (by kernel_rfl) rfl rfl ⟨by omega, by omega⟩ (by first | rfl | exact hqa (by omega))) ?_
          refine rl_v rfl rfl rfl (ov_load rfl Try.underlying2 rfl rfl (by first | exact hq _ hO.below _ (by omega) (by omega) | exact hO.cellI 0 rfl _ (by omega) (by omega) | exact hO.cellL 0 rfl rfl | exact hO.cellI 1 rfl _ (by omega) (by omega) | exact hO.cellL 1 rfl rfl | exact hO.cellI 2 rfl _ (by omega) (by omega) | exact hO.cellL 2 rfl rfl | exact hO.cellI 3 rfl _ (by omega) (by omega) | exact hO.cellL 3 rfl rfl | exact hO.cellI 4 rfl _ (by omega) (by omega) | exact hO.cellL 4 rfl rfl | exact hO.cellI 5 rfl _ (by omega) (by omega) | exact hO.cellL 5 rfl rfl)) ?_
          refine rl_v rfl rfl rfl (ov_lss rfl rfl rfl) ?_
          refine rl_v rfl rfl rfl (ov_move rfl rfl) ?_
          first | refine rl_split_dec 31 rfl (fun hg11 => ?_) (fun hg11 => ?_) | refine rl_split 31 rfl (fun hg11 => ?_) (fun hg11 => ?_)
          · refine rl_gskip rfl rfl rfl rfl rfl rfl ?_
            refine rl_gskip rfl rfl rfl rfl rfl rfl ?_
            refine rl_gskip rfl rfl rfl rfl rfl rfl ?_
            refine rl_gskip rfl rfl rfl rfl rfl rfl ?_
            refine rl_gskip rfl rfl rfl rfl rfl rfl ?_
            refine rl_gskip rfl rfl rfl rfl rfl rfl ?_
            refine rl_v rfl rfl rfl (ov_pick_t rfl rfl rfl) ?_
            refine rl_nil (hk10 _ (jbt rfl (by first | omega | grind)) (And.intro rfl (And.intro rfl trivial)))
          · refine rl_gv rfl rfl rfl rfl rfl (ov_fieldS rfl Try.underlying35 rfl (fo := 1) rfl (by kernel_rfl) rfl) ?_
            refine rl_gv rfl rfl rfl rfl rfl (ov_load rfl Try.underlying23 rfl rfl (by first | exact hq _ hO.below _ (by omega) (by omega) | exact hO.cellI 0 rfl _ (by omega) (by omega) | exact hO.cellL 0 rfl rfl | exact hO.cellI 1 rfl _ (by omega) (by omega) | exact hO.cellL 1 rfl rfl | exact hO.cellI 2 rfl _ (by omega) (by omega) | exact hO.cellL 2 rfl rfl | exact hO.cellI 3 rfl _ (by omega) (by omega) | exact hO.cellL 3 rfl rfl | exact hO.cellI 4 rfl _ (by omega) (by omega) | exact hO.cellL 4 rfl rfl | exact hO.cellI 5 rfl _ (by omega) (by omega) | exact hO.cellL 5 rfl rfl)) ?_
            refine rl_gv rfl rfl rfl rfl rfl (ov_move rfl rfl) ?_
            refine rl_gv rfl rfl rfl rfl rfl (ov_index1 rfl Try.underlying23 (by kernel_rfl) rfl rfl ⟨by omega, by omega⟩ (by first | rfl | exact hqa (by omega))) ?_
            refine rl_gv rfl rfl rfl rfl rfl (ov_load rfl Try.underlying2 rfl rfl (by first | exact hq _ hO.below _ (by omega) (by omega) | exact hO.cellI 0 rfl _ (by omega) (by omega) | exact hO.cellL 0 rfl rfl | exact hO.cellI 1 rfl _ (by omega) (by omega) | exact hO.cellL 1 rfl rfl | exact hO.cellI 2 rfl _ (by omega) (by omega) | exact hO.cellL 2 rfl rfl | exact hO.cellI 3 rfl _ (by omega) (by omega) | exact hO.cellL 3 rfl rfl | exact hO.cellI 4 rfl _ (by omega) (by omega) | exact hO.cellL 4 rfl rfl | exact hO.cellI 5 rfl _ (by omega) (by omega) | exact hO.cellL 5 rfl rfl)) ?_
            refine rl_gv rfl rfl rfl rfl rfl (ov_gtr rfl rfl rfl) ?_
            refine rl_v rfl rfl rfl (ov_pick_f rfl rfl rfl) ?_
            refine rl_nil (hk10 _ (jbd rfl (by first | omega | grind)) (And.intro rfl (And.intro rfl trivial)))
        · show Run _ _ _ _ [(38, _), (1, _), (4, _)] _ _
          first | refine run_cond_dec rfl (fun h5 => ?_) (fun h5 => ?_) | refine run_cond rfl (fun h5 => ?_) (fun h5 => ?_)
          · refine run_seq ?_
            refine run_region ?_
            refine rl_v rfl rfl rfl (ov_assign rfl rfl) ?_
            refine rl_nil ?_
            refine run_ret Try.func55 (res1 Try.results55 rfl) ?_
            exact ⟨by unfold chkC; rw [if_neg (by simpa using h1), if_neg (by omega), if_pos ⟨k, hk0, h4, h5⟩], hO.below⟩
          · refine run_skip ?_
            refine run_inBlock ?_
            refine run_region ?_
            refine rl_v rfl rfl rfl (ov_move rfl rfl) ?_
            refine rl_v rfl rfl rfl (ov_add rfl rfl rfl (by omega)) ?_
            refine rl_v rfl rfl rfl (ov_assign rfl rfl) ?_
            refine rl_nil ?_
            refine Run.use (ih9 _ _ ?_ ?_) (And.intro (by first | with_reducible rfl | exact slot_int rfl (by first | omega) | rfl) (And.intro rfl trivial))
            · first | omega | (dsimp only; omega)
            · exact ⟨by omega, by omega, fun i h0 h1' => (by omega : i = k ∨ i < k).elim (fun e => by rw [e]; exact h5) (fun e => hall i h0 e), hO⟩
      · refine run_exit rfl ?_
        refine run_seq ?_
        refine run_region ?_
        refine rl_v rfl rfl rfl (ov_assign rfl rfl) ?_
        refine rl_nil ?_
        refine run_ret Try.func55 (res1 Try.results55 rfl) ?_
        exact ⟨by unfold chkC; rw [if_neg (by simpa using h1), if_neg (by omega), if_neg (by rintro ⟨i, a, b, e⟩; exact hall i a (by omega) e)], hO.below⟩
end Go.Proofs.Ytiambddcpflkhaa
