/- Debts: Pairwise, the reference's Pairwise and Ring, tables; a row of a table that is owned, taken out and put back. -/
import Derived.Test.YtiambddcpflkhaaCanF
set_option maxRecDepth 100000
namespace Go.Proofs.Ytiambddcpflkhaa
open Go.RowKit Go.Proofs

theorem tables_any (ao bo : Option Addr) (n c m cm : Nat) (L : Int → Nat) (X Y : Int → Int → Int) (w : World) (hn : n ≤ 1000000) (hL : ∀ r : Int, 0 ≤ r → r < n → L r ≤ 1000000)
    (h : ITab w.heap.size w ao n L (fun r c => .int .i64 (X r c))) (h2 : ITab w.heap.size w bo m L (fun r c => .int .i64 (Y r c))) (hmn : n = m) (he : ∀ i j : Int, 0 ≤ i → i < n → 0 ≤ j → j < L i → X i j = Y i j) :
    Calls Try.prog 48 #[.slice ao n c, .slice bo m cm] w fun e w' => e = .returned (.bool true) ∧ Below w.heap.size w w' := by
  obtain ⟨A, C, RB, RO, gb, go, hga, hrow, hra, hel, hri⟩ := h.open
  obtain ⟨A2, C2, RB2, RO2, gb2, go2, hga2, hrow2, hra2, hel2, hri2⟩ := h2.open
  subst hmn
  refine calls_of_run (F := [(0, _), (1, _)]) Try.func48 rfl Try.ntmps48 rfl rfl ?_
  have hO0 := Own.init w
  refine run_seq ?_
  refine run_region ?_
  refine rl_v rfl rfl rfl (ov_assign rfl rfl) ?_
  refine rl_nil ?_
  refine run_seq ?_
  refine run_seq ?_
  refine run_region ?_
  refine rl_v rfl rfl rfl (ov_move rfl rfl) ?_
  refine rl_v rfl rfl rfl (ov_len rfl Try.underlying22 rfl) ?_
  refine rl_v rfl rfl rfl (ov_move rfl rfl) ?_
  refine rl_v rfl rfl rfl (ov_len rfl Try.underlying22 rfl) ?_
  refine rl_v rfl rfl rfl (ov_neq rfl rfl rfl) ?_
  refine rl_nil ?_
  first | refine run_cond_dec rfl (fun h1 => ?_) (fun h1 => ?_) | refine run_cond rfl (fun h1 => ?_) (fun h1 => ?_)
  · exfalso; exact h1 rfl
  · refine run_skip ?_
    refine run_seq ?_
    refine run_seq ?_
    refine run_region ?_
    refine rl_v rfl rfl rfl (ov_assign rfl rfl) ?_
    refine rl_nil ?_
    refine run_block ?_
    refine Run.keep [0, 1, 5] (F' := [(0, _), (1, _), (5, _)]) rfl ?_
    refine run_loop1 (fun (k : Int) => [(5, .int .i64 k)]) [0, 1] (fun (k : Int) (w1 : World) => 0 ≤ k ∧ k ≤ n ∧ Own w.heap.size w w1 []) (fun (k : Int) => ((n : Int) - k).toNat) (0) ?_ (And.intro (by first | with_reducible rfl | exact slot_int rfl (by first | omega) | rfl) (And.intro rfl (And.intro rfl trivial))) ?_
    · exact ⟨by omega, by omega, hO0⟩
    intro k w1 hIw1 ih2
    obtain ⟨hk0, hk1, hO⟩ := hIw1
    show Run _ _ _ _ [(5, _), (0, _), (1, _)] _ _
    refine run_seq ?_
    refine run_seq ?_
    refine run_region ?_
    refine rl_v rfl rfl rfl (ov_move rfl rfl) ?_
    refine rl_v rfl rfl rfl (ov_move rfl rfl) ?_
    refine rl_v rfl rfl rfl (ov_len rfl Try.underlying22 rfl) ?_
    refine rl_v rfl rfl rfl (ov_lss rfl rfl rfl) ?_
    refine rl_nil ?_
    first | refine run_cond_dec rfl (fun h2 => ?_) (fun h2 => ?_) | refine run_cond rfl (fun h2 => ?_) (fun h2 => ?_)
    · have hLk := hL k hk0 h2
      refine run_skip ?_
      refine run_seq ?_
      refine run_block ?_
      refine run_seq ?_
      refine run_tail 8 mixed (by kernel_rfl) ?_
      have hO4 := hO.drew
      generalize World.drew w1 = w3 at hO4 ⊢
      refine rt_v rfl rfl rfl (ov_move rfl rfl) ?_
      refine rt_v rfl rfl rfl (ov_move rfl rfl) ?_
      refine rt_v rfl rfl rfl (ov_index1 rfl Try.underlying22 (by kernel_rfl) rfl rfl ⟨by omega, by omega⟩ (by first | rfl | exact hga (by omega) | exact hga2 (by omega))) ?_
      refine rt_v rfl rfl rfl (ov_load rfl Try.underlying23 rfl rfl (by first | exact hrow _ hO4.below _ (by omega) (by omega) | exact hrow2 _ hO4.below _ (by omega) (by omega) | exact hO4.cellI 0 rfl _ (by omega) (by omega) | exact hO4.cellL 0 rfl rfl | exact hO4.cellI 1 rfl _ (by omega) (by omega) | exact hO4.cellL 1 rfl rfl | exact hO4.cellI 2 rfl _ (by omega) (by omega) | exact hO4.cellL 2 rfl rfl | exact hO4.cellI 3 rfl _ (by omega) (by omega) | exact hO4.cellL 3 rfl rfl | exact hO4.cellI 4 rfl _ (by omega) (by omega) | exact hO4.cellL 4 rfl rfl | exact hO4.cellI 5 rfl _ (by omega) (by omega) | exact hO4.cellL 5 rfl rfl)) ?_
      refine rt_v rfl rfl rfl (ov_move rfl rfl) ?_
      refine rt_v rfl rfl rfl (ov_move rfl rfl) ?_
      refine rt_v rfl rfl rfl (ov_index1 rfl Try.underlying22 (by kernel_rfl) rfl rfl ⟨by omega, by omega⟩ (by first | rfl | exact hga (by omega) | exact hga2 (by omega))) ?_
      refine rt_v rfl rfl rfl (ov_load rfl Try.underlying23 rfl rfl (by first | exact hrow _ hO4.below _ (by omega) (by omega) | exact hrow2 _ hO4.below _ (by omega) (by omega) | exact hO4.cellI 0 rfl _ (by omega) (by omega) | exact hO4.cellL 0 rfl rfl | exact hO4.cellI 1 rfl _ (by omega) (by omega) | exact hO4.cellL 1 rfl rfl | exact hO4.cellI 2 rfl _ (by omega) (by omega) | exact hO4.cellL 2 rfl rfl | exact hO4.cellI 3 rfl _ (by omega) (by omega) | exact hO4.cellL 3 rfl rfl | exact hO4.cellI 4 rfl _ (by omega) (by omega) | exact hO4.cellL 4 rfl rfl | exact hO4.cellI 5 rfl _ (by omega) (by omega) | exact hO4.cellL 5 rfl rfl)) ?_
      refine rt_nil ?_
      refine rl_call callable_23 rfl rfl rfl rfl rfl rfl (longs_any (A k) (A2 k) (L k) (C k) (L k) (C2 k) (X k) (Y k) _ hLk ((hri k hk0 h2).later hO4.below) ((hri2 k hk0 h2).later hO4.below)) (fun e5 w6 hp7 => ?_)
      obtain ⟨⟨bl, rfl, hbl⟩, hb⟩ := hp7
      refine ⟨_, rfl, ?_⟩
      have hO8 := hO4.past hb
      obtain rfl : bl = true := hbl.2 ⟨rfl, fun j j0 j1 => he k j hk0 h2 j0 j1⟩
      refine rl_v rfl rfl rfl (ov_not rfl rfl) ?_
      refine rl_nil ?_
      first | refine run_cond_dec rfl (fun h3 => ?_) (fun h3 => ?_) | refine run_cond rfl (fun h3 => ?_) (fun h3 => ?_)
      · exfalso; cases h3
      · refine run_skip ?_
        refine run_inBlock ?_
        refine run_region ?_
        refine rl_v rfl rfl rfl (ov_move rfl rfl) ?_
        refine rl_v rfl rfl rfl (ov_add rfl rfl rfl (by omega)) ?_
        refine rl_v rfl rfl rfl (ov_assign rfl rfl) ?_
        refine rl_nil ?_
        refine Run.use (ih2 _ _ ?_ ?_) (And.intro (by first | with_reducible rfl | exact slot_int rfl (by first | omega) | rfl) (And.intro rfl (And.intro rfl trivial)))
        · first | omega | (dsimp only; omega)
        · exact ⟨by omega, by omega, hO8⟩
    · refine run_exit rfl ?_
      refine run_seq ?_
      refine run_region ?_
      refine rl_v rfl rfl rfl (ov_assign rfl rfl) ?_
      refine rl_nil ?_
      refine run_ret Try.func48 (res1 Try.results48 rfl) ?_
      exact ⟨rfl, hO.below⟩

theorem pairwise_any (ao : Option Addr) (n c : Nat) (D : Int → Int → Int) (w : World) (hv : Valid n D) (h : ITab w.heap.size w ao n (fun _ => n) (fun r c => .int .i64 (D r c))) :
    Calls Try.prog 44 #[.slice ao n c] w fun e w' => ∃ v H, e = .returned (.tuple #[v, .int .i64 0]) ∧ OTab v 23 2 n (fun _ => n) (fun r c => .int .i64 (max 0 (D r c - D c r))) H ∧ Own w.heap.size w w' H := by
  obtain ⟨A, C, RB, RO, gb, go, hga, hrow, hra, hel, _⟩ := h.open
  have hle := hv.le
  refine calls_of_run (F := [(0, _)]) Try.func44 rfl Try.ntmps44 rfl rfl ?_
  have hO0 := Own.init w
  refine run_seq ?_
  refine run_region ?_
  refine rl_v rfl rfl rfl (ov_assign rfl rfl) ?_
  refine rl_v rfl rfl rfl (ov_assign rfl rfl) ?_
  refine rl_nil ?_
  refine run_seq ?_
  refine run_seq ?_
  refine run_region ?_
  refine rl_v rfl rfl rfl (ov_move rfl rfl) ?_
  refine rl_call callable_58 rfl rfl rfl rfl rfl rfl (check_any ao n c (fun _ => n) D _ (by omega) (h.later hO0.below)) (fun e1 w2 hp3 => ?_)
  obtain ⟨rfl, hb⟩ := hp3
  refine ⟨_, rfl, ?_⟩
  have hO4 := hO0.past hb
  rw [hv.chk]
  refine rl_v rfl rfl rfl (ov_assign rfl rfl) ?_
  refine rl_nil ?_
  refine run_seq ?_
  refine run_region ?_
  refine rl_v rfl rfl rfl (ov_move rfl rfl) ?_
  refine rl_v rfl rfl rfl (ov_neq rfl rfl rfl) ?_
  refine rl_nil ?_
  first | refine run_cond_dec rfl (fun h1 => ?_) (fun h1 => ?_) | refine run_cond rfl (fun h1 => ?_) (fun h1 => ?_)
  · exfalso; exact h1 rfl
  · have hO5 := hO4.nil_cons
    refine run_skip ?_
    refine run_seq ?_
    refine run_region ?_
    refine rl_v rfl rfl rfl (ov_assign rfl rfl) ?_
    refine rl_nil ?_
    refine run_seq ?_
    refine run_seq ?_
    refine run_region ?_
    refine rl_v rfl rfl rfl (ov_move rfl rfl) ?_
    refine rl_v rfl rfl rfl (ov_len rfl Try.underlying22 rfl) ?_
    refine rl_v rfl rfl rfl (ov_move rfl rfl) ?_
    refine rl_nil ?_
    refine run_block ?_
    refine Run.keep [0, 5, 16, 17, 18] (F' := [(0, _), (5, _), (16, _), (17, _), (18, _)]) rfl ?_
    refine run_loop4 (fun (k : Int) (m : Nat) (v : Value) (H : List (Option Blk)) => [(18, .int .i64 k), (5, v)]) [0, 16, 17] (fun (k : Int) (m : Nat) (v : Value) (H : List (Option Blk)) (w5 : World) => k = m ∧ m ≤ n ∧ OTab v 23 2 m (fun _ => n) (fun r c => .int .i64 (max 0 (D r c - D c r))) H ∧ Own w.heap.size w w5 H) (fun (k : Int) (m : Nat) (v : Value) (H : List (Option Blk)) => n - m) (0) (0) (.slice none 0 0) ([none]) ?_ (And.intro (by first | with_reducible rfl | exact slot_int rfl (by first | omega) | rfl) (And.intro rfl (And.intro rfl (And.intro rfl (And.intro rfl trivial))))) ?_
    · exact ⟨rfl, by omega, OTab.nil _ _ _ _, hO5⟩
    intro k m v H w5 hIw5 ih6
    obtain ⟨hk, hm1, hT, hO⟩ := hIw5
    show Run _ _ _ _ [(18, _), (5, _), (0, _), (16, _), (17, _)] _ _
    refine run_seq ?_
    refine run_region ?_
    refine rl_v rfl rfl rfl (ov_lss rfl rfl rfl) ?_
    refine rl_nil ?_
    refine run_seq ?_
    first | refine run_cond_dec rfl (fun h2 => ?_) (fun h2 => ?_) | refine run_cond rfl (fun h2 => ?_) (fun h2 => ?_)
    · refine run_skip ?_
      refine run_seq ?_
      refine run_block ?_
      refine run_seq ?_
      refine run_region ?_
      refine rl_v rfl rfl rfl (ov_move rfl rfl) ?_
      refine rl_v rfl rfl rfl (ov_index1 rfl Try.underlying22 (by kernel_rfl) rfl rfl ⟨by omega, by omega⟩ (by first | rfl | exact hga (by omega) | exact hra _ (by omega) (by omega) (by omega))) ?_
      refine rl_v rfl rfl rfl (ov_load rfl Try.underlying23 rfl rfl (by first | exact hrow _ hO.below _ (by omega) (by omega) | exact hel _ hO.below _ (by omega) (by omega) _ (by omega) (by omega) | exact hO.cellI 0 rfl _ (by omega) (by omega) | exact hO.cellL 0 rfl rfl | exact hO.cellI 1 rfl _ (by omega) (by omega) | exact hO.cellL 1 rfl rfl | exact hO.cellI 2 rfl _ (by omega) (by omega) | exact hO.cellL 2 rfl rfl | exact hO.cellI 3 rfl _ (by omega) (by omega) | exact hO.cellL 3 rfl rfl | exact hO.cellI 4 rfl _ (by omega) (by omega) | exact hO.cellL 4 rfl rfl | exact hO.cellI 5 rfl _ (by omega) (by omega) | exact hO.cellL 5 rfl rfl)) ?_
      refine rl_v rfl rfl rfl (ov_assign rfl rfl) ?_
      refine rl_v rfl rfl rfl (ov_assign rfl rfl) ?_
      refine rl_nil ?_
      refine run_seq ?_
      refine run_region ?_
      refine rl_v rfl rfl rfl (ov_move rfl rfl) ?_
      refine rl_v rfl rfl rfl (ov_len rfl Try.underlying23 rfl) ?_
      refine rl_make (n) rfl rfl rfl rfl Try.underlying23 info_2 rfl hO rfl rfl (by first | rfl | omega) (by first | rfl | omega) ⟨by omega, by omega⟩ (fun b w7 hO8 hs9 => ?_)
      refine rl_v rfl rfl rfl (ov_assign rfl rfl) ?_
      refine rl_nil ?_
      refine run_seq ?_
      refine run_seq ?_
      refine run_region ?_
      refine rl_v rfl rfl rfl (ov_move rfl rfl) ?_
      refine rl_v rfl rfl rfl (ov_len rfl Try.underlying23 rfl) ?_
      refine rl_v rfl rfl rfl (ov_move rfl rfl) ?_
      refine rl_nil ?_
      refine run_block ?_
      refine Run.keep [0, 5, 6, 8, 16, 17, 18, 26, 27, 28] (F' := [(0, _), (5, _), (6, _), (8, _), (16, _), (17, _), (18, _), (26, _), (27, _), (28, _)]) rfl ?_
      refine run_loop2 (fun (j : Int) (g : Int → Int) => [(28, .int .i64 j)]) [0, 5, 6, 8, 16, 17, 18, 26, 27] (fun (j : Int) (g : Int → Int) (w10 : World) => 0 ≤ j ∧ j ≤ n ∧ (∀ i : Int, 0 ≤ i → i < j → g i = max 0 (D k i - D i k)) ∧ Own w.heap.size w w10 (some (vch b 2 n (fun i => .int .i64 (g i))) :: H)) (fun (j : Int) (g : Int → Int) => ((n : Int) - j).toNat) (0) (fun _ => 0) ?_ (And.intro (by first | with_reducible rfl | exact slot_int rfl (by first | omega) | rfl) (And.intro rfl (And.intro rfl (And.intro rfl (And.intro rfl (And.intro rfl (And.intro rfl (And.intro rfl (And.intro rfl (And.intro rfl trivial)))))))))) ?_
      · exact ⟨by omega, by omega, fun i i0 i1 => by omega, hO8⟩
      intro j g w10 hIw10 ih11
      obtain ⟨hj0, hj1, hg, hO2⟩ := hIw10
      show Run _ _ _ _ [(28, _), (0, _), (5, _), (6, _), (8, _), (16, _), (17, _), (18, _), (26, _), (27, _)] _ _
      refine run_seq ?_
      refine run_region ?_
      refine rl_v rfl rfl rfl (ov_lss rfl rfl rfl) ?_
      refine rl_nil ?_
      refine run_seq ?_
      first | refine run_cond_dec rfl (fun h3 => ?_) (fun h3 => ?_) | refine run_cond rfl (fun h3 => ?_) (fun h3 => ?_)
      · have q1 := hv.lo k j
        have q2 := hv.hi k j
        have q3 := hv.lo j k
        have q4 := hv.hi j k
        refine run_skip ?_
        refine run_seq ?_
        refine run_block ?_
        refine run_seq ?_
        refine run_region ?_
        refine rl_v rfl rfl rfl (ov_move rfl rfl) ?_
        refine rl_v rfl rfl rfl (ov_index1 rfl Try.underlying23 (by kernel_rfl) rfl rfl ⟨by omega, by omega⟩ (by first | rfl | exact hga (by omega) | exact hra _ (by omega) (by omega) (by omega))) ?_
        refine rl_v rfl rfl rfl (ov_load rfl Try.underlying2 rfl rfl (by first | exact hrow _ hO2.below _ (by omega) (by omega) | exact hel _ hO2.below _ (by omega) (by omega) _ (by omega) (by omega) | exact hO2.cellI 0 rfl _ (by omega) (by omega) | exact hO2.cellL 0 rfl rfl | exact hO2.cellI 1 rfl _ (by omega) (by omega) | exact hO2.cellL 1 rfl rfl | exact hO2.cellI 2 rfl _ (by omega) (by omega) | exact hO2.cellL 2 rfl rfl | exact hO2.cellI 3 rfl _ (by omega) (by omega) | exact hO2.cellL 3 rfl rfl | exact hO2.cellI 4 rfl _ (by omega) (by omega) | exact hO2.cellL 4 rfl rfl | exact hO2.cellI 5 rfl _ (by omega) (by omega) | exact hO2.cellL 5 rfl rfl)) ?_
        refine rl_v rfl rfl rfl (ov_assign rfl rfl) ?_
        refine rl_v rfl rfl rfl (ov_assign rfl rfl) ?_
        refine rl_nil ?_
        refine run_region ?_
        refine rl_v rfl rfl rfl (ov_move rfl rfl) ?_
        refine rl_v rfl rfl rfl (ov_move rfl rfl) ?_
        refine rl_v rfl rfl rfl (ov_move rfl rfl) ?_
        refine rl_v rfl rfl rfl (ov_move rfl rfl) ?_
        refine rl_v rfl rfl rfl (ov_move rfl rfl) ?_
        refine rl_v rfl rfl rfl (ov_index1 rfl Try.underlying22 (by kernel_rfl) rfl rfl ⟨by omega, by omega⟩ (by first | rfl | exact hga (by omega) | exact hra _ (by omega) (by omega) (by omega))) ?_
        refine rl_v rfl rfl rfl (ov_load rfl Try.underlying23 rfl rfl (by first | exact hrow _ hO2.below _ (by omega) (by omega) | exact hel _ hO2.below _ (by omega) (by omega) _ (by omega) (by omega) | exact hO2.cellI 0 rfl _ (by omega) (by omega) | exact hO2.cellL 0 rfl rfl | exact hO2.cellI 1 rfl _ (by omega) (by omega) | exact hO2.cellL 1 rfl rfl | exact hO2.cellI 2 rfl _ (by omega) (by omega) | exact hO2.cellL 2 rfl rfl | exact hO2.cellI 3 rfl _ (by omega) (by omega) | exact hO2.cellL 3 rfl rfl | exact hO2.cellI 4 rfl _ (by omega) (by omega) | exact hO2.cellL 4 rfl rfl | exact hO2.cellI 5 rfl _ (by omega) (by omega) | exact hO2.cellL 5 rfl rfl)) ?_
        refine rl_v rfl rfl rfl (ov_move rfl rfl) ?_
        refine rl_v rfl rfl rfl (ov_index1 rfl Try.underlying23 (by kernel_rfl) rfl rfl ⟨by omega, by omega⟩ (by first | rfl | exact hga (by omega) | exact hra _ (by omega) (by omega) (by omega))) ?_
        refine rl_v rfl rfl rfl (ov_load rfl Try.underlying2 rfl rfl (by first | exact hrow _ hO2.below _ (by omega) (by omega) | exact hel _ hO2.below _ (by omega) (by omega) _ (by omega) (by omega) | exact hO2.cellI 0 rfl _ (by omega) (by omega) | exact hO2.cellL 0 rfl rfl | exact hO2.cellI 1 rfl _ (by omega) (by omega) | exact hO2.cellL 1 rfl rfl | exact hO2.cellI 2 rfl _ (by omega) (by omega) | exact hO2.cellL 2 rfl rfl | exact hO2.cellI 3 rfl _ (by omega) (by omega) | exact hO2.cellL 3 rfl rfl | exact hO2.cellI 4 rfl _ (by omega) (by omega) | exact hO2.cellL 4 rfl rfl | exact hO2.cellI 5 rfl _ (by omega) (by omega) | exact hO2.cellL 5 rfl rfl)) ?_
        refine rl_v rfl rfl rfl (ov_sub rfl rfl rfl (by omega)) ?_
        refine rl_v rfl rfl rfl (ov_max rfl rfl rfl) ?_
        refine rl_v rfl rfl rfl (ov_index1 rfl Try.underlying23 (by kernel_rfl) rfl rfl ⟨by omega, by omega⟩ (by first | rfl | exact hga (by omega) | exact hra _ (by omega) (by omega) (by omega))) ?_
        refine rl_ow rfl (ow_storeI rfl rfl (by kernel_rfl) hO2 0 rfl rfl ⟨by omega, by omega⟩ rfl) ?_
        rintro _ w12 ⟨rfl, hO13, hs14⟩
        refine rl_nil ?_
        refine run_inBlock ?_
        refine run_region ?_
        refine rl_v rfl rfl rfl (ov_add rfl rfl rfl (by omega)) ?_
        refine rl_v rfl rfl rfl (ov_move rfl rfl) ?_
        refine rl_nil ?_
        refine Run.use (ih11 (j + 1) (upd g j (max 0 (D k j - D j k))) _ ?_ ?_) (And.intro (by first | with_reducible rfl | exact slot_int rfl (by first | omega) | rfl) (And.intro rfl (And.intro rfl (And.intro rfl (And.intro rfl (And.intro rfl (And.intro rfl (And.intro rfl (And.intro rfl (And.intro rfl trivial))))))))))
        · first | omega | (dsimp only; omega)
        · exact ⟨by omega, by omega, fun i i0 i1 => by unfold upd; split; (rename_i e; rw [e]); exact hg i i0 (by omega), hO13⟩
      · obtain ⟨c0, rv, ch, rfl, hvt, h3t⟩ := hT
        refine run_exit rfl ?_
        refine run_region ?_
        refine rl_v rfl rfl rfl (ov_move rfl rfl) ?_
        refine rl_v rfl rfl rfl (ov_move rfl rfl) ?_
        refine rl_appV rfl rfl rfl rfl rfl rfl rfl rfl Try.underlying22 info_23 rfl hO2 1 hvt rfl rfl rfl rfl ⟨by omega, by omega⟩ (fun v6 c6 w15 hO16 hv6 hs17 => ?_)
        obtain ⟨H', hT', hO'⟩ := OTab.snoc (L := fun _ => n) (F := fun r c => .int .i64 (max 0 (D r c - D c r))) (H0 := []) h3t (IRow.ofV (b := b) (cap := n) (G := fun i => .int .i64 (max 0 (D k i - D i k))) (G' := fun i => .int .i64 (g i)) (Nat.le_refl n) (by unfold maxLen; omega) (fun i i0 i1 => by rw [hg i i0 (by omega)])) hv6 (by simpa using hO16) rfl (fun i _ _ => by rw [hk])
        refine rl_v rfl rfl rfl (ov_assign rfl rfl) ?_
        refine rl_nil ?_
        refine run_inBlock ?_
        refine run_region ?_
        refine rl_v rfl rfl rfl (ov_add rfl rfl rfl (by omega)) ?_
        refine rl_v rfl rfl rfl (ov_move rfl rfl) ?_
        refine rl_nil ?_
        refine Run.use (ih6 (k + 1) (m + 1) (v6) (H') _ ?_ ?_) (And.intro (by first | with_reducible rfl | exact slot_int rfl (by first | omega) | rfl) (And.intro rfl (And.intro rfl (And.intro rfl (And.intro rfl trivial)))))
        · first | omega | (dsimp only; omega)
        · exact ⟨by omega, by omega, hT', by simpa using hO'⟩
    · obtain rfl : m = n := by omega
      refine run_exit rfl ?_
      refine run_seq ?_
      refine run_region ?_
      refine rl_v rfl rfl rfl (ov_move rfl rfl) ?_
      refine rl_v rfl rfl rfl (ov_assign rfl rfl) ?_
      refine rl_v rfl rfl rfl (ov_assign rfl rfl) ?_
      refine rl_nil ?_
      refine run_ret Try.func44 (res2 Try.results44 rfl rfl) ?_
      exact ⟨v, H, rfl, hT, hO⟩

theorem refPairwise_any (ao : Option Addr) (n c : Nat) (D : Int → Int → Int) (w : World) (hv : Valid n D) (h : ITab w.heap.size w ao n (fun _ => n) (fun r c => .int .i64 (D r c))) :
    Calls Try.prog 49 #[.slice ao n c] w fun e w' => ∃ v H, e = .returned v ∧ OTab v 23 2 n (fun _ => n) (fun r c => .int .i64 (max 0 (D r c - D c r))) H ∧ Own w.heap.size w w' H := by
  obtain ⟨A, C, RB, RO, gb, go, hga, hrow, hra, hel, _⟩ := h.open
  have hle := hv.le
  refine calls_of_run (F := [(0, _)]) Try.func49 rfl Try.ntmps49 rfl rfl ?_
  have hO0 := Own.init w
  have hO5 := hO0.nil_cons
  refine run_seq ?_
  refine run_region ?_
  refine rl_v rfl rfl rfl (ov_assign rfl rfl) ?_
  refine rl_nil ?_
  refine run_seq ?_
  refine run_region ?_
  refine rl_v rfl rfl rfl (ov_assign rfl rfl) ?_
  refine rl_nil ?_
  refine run_seq ?_
  refine run_seq ?_
  refine run_region ?_
  refine rl_v rfl rfl rfl (ov_assign rfl rfl) ?_
  refine rl_nil ?_
  refine run_block ?_
  refine Run.keep [0, 3, 4] (F' := [(0, _), (3, _), (4, _)]) rfl ?_
  refine run_loop4 (fun (k : Int) (m : Nat) (v : Value) (H : List (Option Blk)) => [(4, .int .i64 k), (3, v)]) [0] (fun (k : Int) (m : Nat) (v : Value) (H : List (Option Blk)) (w1 : World) => k = m ∧ m ≤ n ∧ OTab v 23 2 m (fun _ => n) (fun r c => .int .i64 (max 0 (D r c - D c r))) H ∧ Own w.heap.size w w1 H) (fun (k : Int) (m : Nat) (v : Value) (H : List (Option Blk)) => n - m) (0) (0) (.slice none 0 0) ([none]) ?_ (And.intro (by first | with_reducible rfl | exact slot_int rfl (by first | omega) | rfl) (And.intro rfl (And.intro rfl trivial))) ?_
  · exact ⟨rfl, by omega, OTab.nil _ _ _ _, hO5⟩
  intro k m v H w1 hIw1 ih2
  obtain ⟨hk, hm1, hT, hO⟩ := hIw1
  show Run _ _ _ _ [(4, _), (3, _), (0, _)] _ _
  refine run_seq ?_
  refine run_seq ?_
  refine run_region ?_
  refine rl_v rfl rfl rfl (ov_move rfl rfl) ?_
  refine rl_v rfl rfl rfl (ov_move rfl rfl) ?_
  refine rl_v rfl rfl rfl (ov_len rfl Try.underlying22 rfl) ?_
  refine rl_v rfl rfl rfl (ov_lss rfl rfl rfl) ?_
  refine rl_nil ?_
  first | refine run_cond_dec rfl (fun h1 => ?_) (fun h1 => ?_) | refine run_cond rfl (fun h1 => ?_) (fun h1 => ?_)
  · refine run_skip ?_
    refine run_seq ?_
    refine run_block ?_
    refine run_seq ?_
    refine run_region ?_
    refine rl_v rfl rfl rfl (ov_assign rfl rfl) ?_
    refine rl_nil ?_
    refine run_seq ?_
    refine run_seq ?_
    refine run_region ?_
    refine rl_v rfl rfl rfl (ov_assign rfl rfl) ?_
    refine rl_nil ?_
    refine run_block ?_
    refine Run.keep [0, 3, 4, 5, 6] (F' := [(0, _), (3, _), (4, _), (5, _), (6, _)]) rfl ?_
    refine run_loop4 (fun (j : Int) (m2 : Nat) (x : Value) (cr : Option Blk) => [(6, .int .i64 j), (5, x)]) [0, 3, 4] (fun (j : Int) (m2 : Nat) (x : Value) (cr : Option Blk) (w3 : World) => j = m2 ∧ m2 ≤ n ∧ IRow x 2 m2 (fun i => .int .i64 (max 0 (D k i - D i k))) cr ∧ Own w.heap.size w w3 (cr :: H)) (fun (j : Int) (m2 : Nat) (x : Value) (cr : Option Blk) => n - m2) (0) (0) (.slice none 0 0) (none) ?_ (And.intro (by first | with_reducible rfl | exact slot_int rfl (by first | omega) | rfl) (And.intro rfl (And.intro rfl (And.intro rfl (And.intro rfl trivial))))) ?_
    · exact ⟨rfl, by omega, IRow.nil _ _, hO.nil_cons⟩
    intro j m2 x cr w3 hIw3 ih4
    obtain ⟨hj, hm2, hr, hO2⟩ := hIw3
    show Run _ _ _ _ [(6, _), (5, _), (0, _), (3, _), (4, _)] _ _
    refine run_seq ?_
    refine run_seq ?_
    refine run_region ?_
    refine rl_v rfl rfl rfl (ov_move rfl rfl) ?_
    refine rl_v rfl rfl rfl (ov_move rfl rfl) ?_
    refine rl_v rfl rfl rfl (ov_len rfl Try.underlying22 rfl) ?_
    refine rl_v rfl rfl rfl (ov_lss rfl rfl rfl) ?_
    refine rl_nil ?_
    first | refine run_cond_dec rfl (fun h2 => ?_) (fun h2 => ?_) | refine run_cond rfl (fun h2 => ?_) (fun h2 => ?_)
    · have q1 := hv.lo k j
      have q2 := hv.hi k j
      have q3 := hv.lo j k
      have q4 := hv.hi j k
      refine run_skip ?_
      refine run_seq ?_
      refine run_block ?_
      refine run_held (fun w' => Own w.heap.size w w' (H)) mixed ?_
      have hO6 := hO2.drew
      generalize World.drew w3 = w5 at hO6 ⊢
      have hS7 : Own w.heap.size w w5 (H) := by first | exact hO6.tail | exact hO6.tail.tail
      refine rh_v 0 rfl (by kernel_rfl) rfl rfl rfl hS7 (fun _ hS => ov_move rfl rfl) ?_
      refine rh_v 1 rfl (by kernel_rfl) rfl rfl rfl hS7 (fun _ hS => ov_move rfl rfl) ?_
      refine rh_v 2 rfl (by kernel_rfl) rfl rfl rfl hS7 (fun _ hS => ov_move rfl rfl) ?_
      refine rh_v 3 rfl (by kernel_rfl) rfl rfl rfl hS7 (fun _ hS => ov_index1 rfl Try.underlying22 (by kernel_rfl) rfl rfl ⟨by omega, by omega⟩ (by first | rfl | exact hga (by omega) | exact hra _ (by omega) (by omega) (by omega))) ?_
      refine rh_v 4 rfl (by kernel_rfl) rfl rfl rfl hS7 (fun _ hS => ov_load rfl Try.underlying23 rfl rfl (by first | exact hrow _ hS.below _ (by omega) (by omega) | exact hel _ hS.below _ (by omega) (by omega) _ (by omega) (by omega) | exact hS.cellI 0 rfl _ (by omega) (by omega) | exact hS.cellL 0 rfl rfl | exact hS.cellI 1 rfl _ (by omega) (by omega) | exact hS.cellL 1 rfl rfl | exact hS.cellI 2 rfl _ (by omega) (by omega) | exact hS.cellL 2 rfl rfl | exact hS.cellI 3 rfl _ (by omega) (by omega) | exact hS.cellL 3 rfl rfl | exact hS.cellI 4 rfl _ (by omega) (by omega) | exact hS.cellL 4 rfl rfl | exact hS.cellI 5 rfl _ (by omega) (by omega) | exact hS.cellL 5 rfl rfl)) ?_
      refine rh_v 5 rfl (by kernel_rfl) rfl rfl rfl hS7 (fun _ hS => ov_move rfl rfl) ?_
      refine rh_v 6 rfl (by kernel_rfl) rfl rfl rfl hS7 (fun _ hS => ov_index1 rfl Try.underlying23 (by kernel_rfl) rfl rfl ⟨by omega, by omega⟩ (by first | rfl | exact hga (by omega) | exact hra _ (by omega) (by omega) (by omega))) ?_
      refine rh_v 7 rfl (by kernel_rfl) rfl rfl rfl hS7 (fun _ hS => ov_load rfl Try.underlying2 rfl rfl (by first | exact hrow _ hS.below _ (by omega) (by omega) | exact hel _ hS.below _ (by omega) (by omega) _ (by omega) (by omega) | exact hS.cellI 0 rfl _ (by omega) (by omega) | exact hS.cellL 0 rfl rfl | exact hS.cellI 1 rfl _ (by omega) (by omega) | exact hS.cellL 1 rfl rfl | exact hS.cellI 2 rfl _ (by omega) (by omega) | exact hS.cellL 2 rfl rfl | exact hS.cellI 3 rfl _ (by omega) (by omega) | exact hS.cellL 3 rfl rfl | exact hS.cellI 4 rfl _ (by omega) (by omega) | exact hS.cellL 4 rfl rfl | exact hS.cellI 5 rfl _ (by omega) (by omega) | exact hS.cellL 5 rfl rfl)) ?_
      refine rh_v 8 rfl (by kernel_rfl) rfl rfl rfl hS7 (fun _ hS => ov_move rfl rfl) ?_
      refine rh_v 9 rfl (by kernel_rfl) rfl rfl rfl hS7 (fun _ hS => ov_move rfl rfl) ?_
      refine rh_v 10 rfl (by kernel_rfl) rfl rfl rfl hS7 (fun _ hS => ov_index1 rfl Try.underlying22 (by kernel_rfl) rfl rfl ⟨by omega, by omega⟩ (by first | rfl | exact hga (by omega) | exact hra _ (by omega) (by omega) (by omega))) ?_
      refine rh_v 11 rfl (by kernel_rfl) rfl rfl rfl hS7 (fun _ hS => ov_load rfl Try.underlying23 rfl rfl (by first | exact hrow _ hS.below _ (by omega) (by omega) | exact hel _ hS.below _ (by omega) (by omega) _ (by omega) (by omega) | exact hS.cellI 0 rfl _ (by omega) (by omega) | exact hS.cellL 0 rfl rfl | exact hS.cellI 1 rfl _ (by omega) (by omega) | exact hS.cellL 1 rfl rfl | exact hS.cellI 2 rfl _ (by omega) (by omega) | exact hS.cellL 2 rfl rfl | exact hS.cellI 3 rfl _ (by omega) (by omega) | exact hS.cellL 3 rfl rfl | exact hS.cellI 4 rfl _ (by omega) (by omega) | exact hS.cellL 4 rfl rfl | exact hS.cellI 5 rfl _ (by omega) (by omega) | exact hS.cellL 5 rfl rfl)) ?_
      refine rh_v 12 rfl (by kernel_rfl) rfl rfl rfl hS7 (fun _ hS => ov_move rfl rfl) ?_
      refine rh_v 13 rfl (by kernel_rfl) rfl rfl rfl hS7 (fun _ hS => ov_index1 rfl Try.underlying23 (by kernel_rfl) rfl rfl ⟨by omega, by omega⟩ (by first | rfl | exact hga (by omega) | exact hra _ (by omega) (by omega) (by omega))) ?_
      refine rh_v 14 rfl (by kernel_rfl) rfl rfl rfl hS7 (fun _ hS => ov_load rfl Try.underlying2 rfl rfl (by first | exact hrow _ hS.below _ (by omega) (by omega) | exact hel _ hS.below _ (by omega) (by omega) _ (by omega) (by omega) | exact hS.cellI 0 rfl _ (by omega) (by omega) | exact hS.cellL 0 rfl rfl | exact hS.cellI 1 rfl _ (by omega) (by omega) | exact hS.cellL 1 rfl rfl | exact hS.cellI 2 rfl _ (by omega) (by omega) | exact hS.cellL 2 rfl rfl | exact hS.cellI 3 rfl _ (by omega) (by omega) | exact hS.cellL 3 rfl rfl | exact hS.cellI 4 rfl _ (by omega) (by omega) | exact hS.cellL 4 rfl rfl | exact hS.cellI 5 rfl _ (by omega) (by omega) | exact hS.cellL 5 rfl rfl)) ?_
      refine rh_v 15 rfl (by kernel_rfl) rfl rfl rfl hS7 (fun _ hS => ov_sub rfl rfl rfl (by omega)) ?_
      refine rh_v 16 rfl (by kernel_rfl) rfl rfl rfl hS7 (fun _ hS => ov_max rfl rfl rfl) ?_
      refine rh_any1 17 (by kernel_rfl) ?_
      refine rc_op rfl rfl (ow_one rfl rfl rfl Try.underlying23 info_2 rfl hO6 rfl rfl) ?_
      rintro _ w8 ⟨b1, rfl, hO9, hs10⟩
      have hS11 : Own w.heap.size w w8 (H) := by first | exact hO9.tail | exact hO9.tail.tail
      refine ⟨hS11, ?_⟩
      refine rh_any1 18 (by kernel_rfl) ?_
      refine rc_op rfl rfl (ow_app1 rfl rfl rfl Try.underlying23 info_2 rfl hO9 0 hr rfl rfl rfl rfl ⟨by omega, by omega⟩) ?_
      rintro _ w12 ⟨v5, c5, rfl, hO13, hr5, hs14⟩
      have hS15 : Own w.heap.size w w12 (H) := by first | exact hO13.tail | exact hO13.tail.tail
      refine ⟨hS15, ?_⟩
      refine rh_v 19 rfl (by kernel_rfl) rfl rfl rfl hS15 (fun _ hS => ov_assign rfl rfl) ?_
      refine rh_done (by kernel_rfl) ?_
      refine run_inBlock ?_
      refine run_region ?_
      refine rl_v rfl rfl rfl (ov_move rfl rfl) ?_
      refine rl_v rfl rfl rfl (ov_add rfl rfl rfl (by omega)) ?_
      refine rl_v rfl rfl rfl (ov_assign rfl rfl) ?_
      refine rl_nil ?_
      refine Run.use (ih4 (j + 1) (m2 + 1) (v5) (c5) _ ?_ ?_) (And.intro (by first | with_reducible rfl | exact slot_int rfl (by first | omega) | rfl) (And.intro rfl (And.intro rfl (And.intro rfl (And.intro rfl trivial)))))
      · first | omega | (dsimp only; omega)
      · exact ⟨by omega, by omega, hr5.congr fun i i0 i1 => by unfold upd; split; (rename_i e; rw [e, ← hj]); rfl, hO13⟩
    · obtain rfl : m2 = n := by omega
      obtain ⟨ao5, cap5, rfl⟩ := hr.val
      obtain ⟨c0, rv, ch, rfl, hvt, h3t⟩ := hT
      refine run_exit rfl ?_
      refine run_region ?_
      refine rl_v rfl rfl rfl (ov_move rfl rfl) ?_
      refine rl_v rfl rfl rfl (ov_move rfl rfl) ?_
      refine rl_appV rfl rfl rfl rfl rfl rfl rfl rfl Try.underlying22 info_23 rfl hO2 1 hvt rfl rfl rfl rfl ⟨by omega, by omega⟩ (fun v6 c6 w16 hO17 hv6 hs18 => ?_)
      obtain ⟨H', hT', hO'⟩ := OTab.snoc (L := fun _ => m2) (F := fun r c => .int .i64 (max 0 (D r c - D c r))) (H0 := []) h3t hr hv6 (by simpa using hO17) rfl (fun i _ _ => by rw [hk])
      refine rl_v rfl rfl rfl (ov_assign rfl rfl) ?_
      refine rl_nil ?_
      refine run_inBlock ?_
      refine run_region ?_
      refine rl_v rfl rfl rfl (ov_move rfl rfl) ?_
      refine rl_v rfl rfl rfl (ov_add rfl rfl rfl (by omega)) ?_
      refine rl_v rfl rfl rfl (ov_assign rfl rfl) ?_
      refine rl_nil ?_
      refine Run.use (ih2 (k + 1) (m + 1) (v6) (H') _ ?_ ?_) (And.intro (by first | with_reducible rfl | exact slot_int rfl (by first | omega) | rfl) (And.intro rfl (And.intro rfl trivial)))
      · first | omega | (dsimp only; omega)
      · exact ⟨by omega, by omega, hT', by simpa using hO'⟩
  · obtain rfl : m = n := by omega
    refine run_exit rfl ?_
    refine run_seq ?_
    refine run_region ?_
    refine rl_v rfl rfl rfl (ov_move rfl rfl) ?_
    refine rl_v rfl rfl rfl (ov_assign rfl rfl) ?_
    refine rl_nil ?_
    refine run_ret Try.func49 (res1 Try.results49 rfl) ?_
    exact ⟨v, H, rfl, hT, hO⟩

theorem refRing_any (ao bo : Option Addr) (n c cl : Nat) (l : List Int) (D : Int → Int → Int) (w : World) (hn : n ≤ 32) (hl : RingL n D l) (h : ITab w.heap.size w ao n (fun _ => n) (fun r c => .int .i64 (D r c))) (h2 : IAt w.heap.size w bo l.length (fun j => .int .i64 (lF l j))) :
    Calls Try.prog 46 #[.slice ao n c, .slice bo l.length cl] w fun e w' => e = .returned (.bool true) ∧ Below w.heap.size w w' := by
  obtain ⟨A, C, RB, RO, gb, go, hga, hrow, hra, hel, _⟩ := h.open
  obtain ⟨lb, lo, hla, hlr⟩ := h2.open
  have hlen : l.length ≤ n := nodup_le hl.nd hl.rng
  have hpos : 1 ≤ l.length := List.length_pos_iff.2 hl.ne
  have hrng : ∀ k : Int, 0 ≤ k → k < l.length → 0 ≤ lF l k ∧ lF l k < n := fun k k0 k1 => hl.rng _ (lF_mem.2 ⟨k, k0, k1, rfl⟩)
  refine calls_of_run (F := [(0, _), (1, _)]) Try.func46 rfl Try.ntmps46 rfl rfl ?_
  have hO0 := Own.init w
  refine run_seq ?_
  refine run_region ?_
  refine rl_v rfl rfl rfl (ov_assign rfl rfl) ?_
  refine rl_nil ?_
  refine run_seq ?_
  refine run_seq ?_
  refine run_region ?_
  refine rl_v rfl rfl rfl (ov_assign rfl rfl) ?_
  refine rl_nil ?_
  refine run_block ?_
  refine Run.keep [0, 1, 5] (F' := [(0, _), (1, _), (5, _)]) rfl ?_
  refine run_loop1 (fun (k : Int) => [(5, .int .i64 k)]) [0, 1] (fun (k : Int) (w1 : World) => 0 ≤ k ∧ k ≤ l.length ∧ Own w.heap.size w w1 []) (fun (k : Int) => ((l.length : Int) - k).toNat) (0) ?_ (And.intro (by first | with_reducible rfl | exact slot_int rfl (by first | omega) | rfl) (And.intro rfl (And.intro rfl trivial))) ?_
  · exact ⟨by omega, by omega, hO0⟩
  intro k w1 hIw1 ih2
  obtain ⟨hk0, hk1, hO⟩ := hIw1
  show Run _ _ _ _ [(5, _), (0, _), (1, _)] _ _
  refine run_seq ?_
  refine run_seq ?_
  refine run_region ?_
  refine rl_v rfl rfl rfl (ov_move rfl rfl) ?_
  refine rl_v rfl rfl rfl (ov_move rfl rfl) ?_
  refine rl_v rfl rfl rfl (ov_len rfl Try.underlying55 rfl) ?_
  refine rl_v rfl rfl rfl (ov_lss rfl rfl rfl) ?_
  refine rl_nil ?_
  first | refine run_cond_dec rfl (fun h1 => ?_) (fun h1 => ?_) | refine run_cond rfl (fun h1 => ?_) (fun h1 => ?_)
  · have hrk := hrng k hk0 h1
    refine run_skip ?_
    refine run_seq ?_
    refine run_block ?_
    refine run_seq ?_
    refine run_seq ?_
    refine run_region_join 27 (.bool (decide (lF l k < 0 ∨ n ≤ lF l k))) [0, 1, 5] (fun hk3 => ?_) ?_
    · refine rl_v rfl rfl rfl (ov_move rfl rfl) ?_
      refine rl_v rfl rfl rfl (ov_move rfl rfl) ?_
      refine rl_v rfl rfl rfl (ov_index1 rfl Try.underlying55 (by kernel_rfl) rfl rfl ⟨by omega, by omega⟩ (by first | rfl | exact hga (by omega) | exact hra _ (by omega) (by omega) (by omega) | exact hla (by omega))) ?_
      refine rl_v rfl rfl rfl (ov_load rfl Try.underlying3 rfl rfl (by first | exact hrow _ hO.below _ (by omega) (by omega) | exact hel _ hO.below _ (by omega) (by omega) _ (by omega) (by omega) | exact hlr _ hO.below _ (by omega) (by omega) | exact hO.cellI 0 rfl _ (by omega) (by omega) | exact hO.cellL 0 rfl rfl | exact hO.cellI 1 rfl _ (by omega) (by omega) | exact hO.cellL 1 rfl rfl | exact hO.cellI 2 rfl _ (by omega) (by omega) | exact hO.cellL 2 rfl rfl | exact hO.cellI 3 rfl _ (by omega) (by omega) | exact hO.cellL 3 rfl rfl | exact hO.cellI 4 rfl _ (by omega) (by omega) | exact hO.cellL 4 rfl rfl | exact hO.cellI 5 rfl _ (by omega) (by omega) | exact hO.cellL 5 rfl rfl)) ?_
      refine rl_v rfl rfl rfl (ov_lss rfl rfl rfl) ?_
      refine rl_v rfl rfl rfl (ov_move rfl rfl) ?_
      first | refine rl_split_dec 19 rfl (fun hg4 => ?_) (fun hg4 => ?_) | refine rl_split 19 rfl (fun hg4 => ?_) (fun hg4 => ?_)
      · refine rl_gskip rfl rfl rfl rfl rfl rfl ?_
        refine rl_gskip rfl rfl rfl rfl rfl rfl ?_
        refine rl_gskip rfl rfl rfl rfl rfl rfl ?_
        refine rl_gskip rfl rfl rfl rfl rfl rfl ?_
        refine rl_gskip rfl rfl rfl rfl rfl rfl ?_
        refine rl_gskip rfl rfl rfl rfl rfl rfl ?_
        refine rl_gskip rfl rfl rfl rfl rfl rfl ?_
        refine rl_v rfl rfl rfl (ov_pick_t rfl rfl rfl) ?_
        refine rl_nil (hk3 _ (jbt rfl (by first | omega | grind)) (And.intro rfl (And.intro rfl (And.intro rfl trivial))))
      · refine rl_gv rfl rfl rfl rfl rfl (ov_move rfl rfl) ?_
        refine rl_gv rfl rfl rfl rfl rfl (ov_move rfl rfl) ?_
        refine rl_gv rfl rfl rfl rfl rfl (ov_index1 rfl Try.underlying55 (by kernel_rfl) rfl rfl ⟨by omega, by omega⟩ (by first | rfl | exact hga (by omega) | exact hra _ (by omega) (by omega) (by omega) | exact hla (by omega))) ?_
        refine rl_gv rfl rfl rfl rfl rfl (ov_load rfl Try.underlying3 rfl rfl (by first | exact hrow _ hO.below _ (by omega) (by omega) | exact hel _ hO.below _ (by omega) (by omega) _ (by omega) (by omega) | exact hlr _ hO.below _ (by omega) (by omega) | exact hO.cellI 0 rfl _ (by omega) (by omega) | exact hO.cellL 0 rfl rfl | exact hO.cellI 1 rfl _ (by omega) (by omega) | exact hO.cellL 1 rfl rfl | exact hO.cellI 2 rfl _ (by omega) (by omega) | exact hO.cellL 2 rfl rfl | exact hO.cellI 3 rfl _ (by omega) (by omega) | exact hO.cellL 3 rfl rfl | exact hO.cellI 4 rfl _ (by omega) (by omega) | exact hO.cellL 4 rfl rfl | exact hO.cellI 5 rfl _ (by omega) (by omega) | exact hO.cellL 5 rfl rfl)) ?_
        refine rl_gv rfl rfl rfl rfl rfl (ov_move rfl rfl) ?_
        refine rl_gv rfl rfl rfl rfl rfl (ov_len rfl Try.underlying22 rfl) ?_
        refine rl_gv rfl rfl rfl rfl rfl (ov_geq rfl rfl rfl) ?_
        refine rl_v rfl rfl rfl (ov_pick_f rfl rfl rfl) ?_
        refine rl_nil (hk3 _ (jbd rfl (by first | omega | grind)) (And.intro rfl (And.intro rfl (And.intro rfl trivial))))
    · show Run _ _ _ _ [(27, _), (0, _), (1, _), (5, _)] _ _
      first | refine run_cond_dec rfl (fun h2 => ?_) (fun h2 => ?_) | refine run_cond rfl (fun h2 => ?_) (fun h2 => ?_)
      · exfalso; omega
      · refine run_skip ?_
        refine run_seq ?_
        refine run_region ?_
        refine rl_v rfl rfl rfl (ov_assign rfl rfl) ?_
        refine rl_nil ?_
        refine run_block ?_
        refine Run.keep [0, 1, 5, 6] (F' := [(0, _), (1, _), (5, _), (6, _)]) rfl ?_
        refine run_loop1 (fun (j : Int) => [(6, .int .i64 j)]) [0, 1, 5] (fun (j : Int) (w5 : World) => 0 ≤ j ∧ j ≤ k ∧ Own w.heap.size w w5 []) (fun (j : Int) => (k - j).toNat) (0) ?_ (And.intro (by first | with_reducible rfl | exact slot_int rfl (by first | omega) | rfl) (And.intro rfl (And.intro rfl (And.intro rfl trivial)))) ?_
        · exact ⟨by omega, by omega, hO⟩
        intro j w5 hIw5 ih6
        obtain ⟨hj0, hj1, hO2⟩ := hIw5
        show Run _ _ _ _ [(6, _), (0, _), (1, _), (5, _)] _ _
        refine run_seq ?_
        refine run_seq ?_
        refine run_region ?_
        refine rl_v rfl rfl rfl (ov_move rfl rfl) ?_
        refine rl_v rfl rfl rfl (ov_move rfl rfl) ?_
        refine rl_v rfl rfl rfl (ov_lss rfl rfl rfl) ?_
        refine rl_nil ?_
        first | refine run_cond_dec rfl (fun h3 => ?_) (fun h3 => ?_) | refine run_cond rfl (fun h3 => ?_) (fun h3 => ?_)
        · have hne : lF l j ≠ lF l k := fun e => by
            unfold lF at e
            rw [List.getD_eq_getElem?_getD, List.getD_eq_getElem?_getD, List.getElem?_eq_getElem (show j.toNat < l.length by omega), List.getElem?_eq_getElem (show k.toNat < l.length by omega)] at e
            exact List.pairwise_iff_getElem.1 hl.nd j.toNat k.toNat (by omega) (by omega) (by omega) e
          refine run_skip ?_
          refine run_seq ?_
          refine run_block ?_
          refine run_seq ?_
          refine run_quiet mixed (by kernel_rfl) ?_
          refine rq_v rfl rfl rfl (fun _ => ov_move rfl rfl) ?_
          refine rq_v rfl rfl rfl (fun _ => ov_move rfl rfl) ?_
          refine rq_v rfl rfl rfl (fun _ => ov_index1 rfl Try.underlying55 (by kernel_rfl) rfl rfl ⟨by omega, by omega⟩ (by first | rfl | exact hga (by omega) | exact hra _ (by omega) (by omega) (by omega) | exact hla (by omega))) ?_
          refine rq_v rfl rfl rfl (fun _ => ov_load rfl Try.underlying3 rfl rfl (by show World.cell? w5 _ = _; first | exact hrow _ hO2.below _ (by omega) (by omega) | exact hel _ hO2.below _ (by omega) (by omega) _ (by omega) (by omega) | exact hlr _ hO2.below _ (by omega) (by omega) | exact hO2.cellI 0 rfl _ (by omega) (by omega) | exact hO2.cellL 0 rfl rfl | exact hO2.cellI 1 rfl _ (by omega) (by omega) | exact hO2.cellL 1 rfl rfl | exact hO2.cellI 2 rfl _ (by omega) (by omega) | exact hO2.cellL 2 rfl rfl | exact hO2.cellI 3 rfl _ (by omega) (by omega) | exact hO2.cellL 3 rfl rfl | exact hO2.cellI 4 rfl _ (by omega) (by omega) | exact hO2.cellL 4 rfl rfl | exact hO2.cellI 5 rfl _ (by omega) (by omega) | exact hO2.cellL 5 rfl rfl)) ?_
          refine rq_v rfl rfl rfl (fun _ => ov_move rfl rfl) ?_
          refine rq_v rfl rfl rfl (fun _ => ov_move rfl rfl) ?_
          refine rq_v rfl rfl rfl (fun _ => ov_index1 rfl Try.underlying55 (by kernel_rfl) rfl rfl ⟨by omega, by omega⟩ (by first | rfl | exact hga (by omega) | exact hra _ (by omega) (by omega) (by omega) | exact hla (by omega))) ?_
          refine rq_v rfl rfl rfl (fun _ => ov_load rfl Try.underlying3 rfl rfl (by show World.cell? w5 _ = _; first | exact hrow _ hO2.below _ (by omega) (by omega) | exact hel _ hO2.below _ (by omega) (by omega) _ (by omega) (by omega) | exact hlr _ hO2.below _ (by omega) (by omega) | exact hO2.cellI 0 rfl _ (by omega) (by omega) | exact hO2.cellL 0 rfl rfl | exact hO2.cellI 1 rfl _ (by omega) (by omega) | exact hO2.cellL 1 rfl rfl | exact hO2.cellI 2 rfl _ (by omega) (by omega) | exact hO2.cellL 2 rfl rfl | exact hO2.cellI 3 rfl _ (by omega) (by omega) | exact hO2.cellL 3 rfl rfl | exact hO2.cellI 4 rfl _ (by omega) (by omega) | exact hO2.cellL 4 rfl rfl | exact hO2.cellI 5 rfl _ (by omega) (by omega) | exact hO2.cellL 5 rfl rfl)) ?_
          refine rq_v rfl rfl rfl (fun _ => ov_eql rfl rfl rfl) ?_
          refine rq_nil (fun n7 => ?_)
          have hO9 := hO2.drewN n7
          generalize World.drewN w5 n7 = w8 at hO9 ⊢
          first | refine run_cond_dec rfl (fun h4 => ?_) (fun h4 => ?_) | refine run_cond rfl (fun h4 => ?_) (fun h4 => ?_)
          · exfalso; exact hne h4
          · refine run_skip ?_
            refine run_inBlock ?_
            refine run_region ?_
            refine rl_v rfl rfl rfl (ov_move rfl rfl) ?_
            refine rl_v rfl rfl rfl (ov_add rfl rfl rfl (by omega)) ?_
            refine rl_v rfl rfl rfl (ov_assign rfl rfl) ?_
            refine rl_nil ?_
            refine Run.use (ih6 _ _ ?_ ?_) (And.intro (by first | with_reducible rfl | exact slot_int rfl (by first | omega) | rfl) (And.intro rfl (And.intro rfl (And.intro rfl trivial))))
            · first | omega | (dsimp only; omega)
            · exact ⟨by omega, by omega, hO9⟩
        · refine run_exit rfl ?_
          refine run_inBlock ?_
          refine run_region ?_
          refine rl_v rfl rfl rfl (ov_move rfl rfl) ?_
          refine rl_v rfl rfl rfl (ov_add rfl rfl rfl (by omega)) ?_
          refine rl_v rfl rfl rfl (ov_assign rfl rfl) ?_
          refine rl_nil ?_
          refine Run.use (ih2 _ _ ?_ ?_) (And.intro (by first | with_reducible rfl | exact slot_int rfl (by first | omega) | rfl) (And.intro rfl (And.intro rfl trivial)))
          · first | omega | (dsimp only; omega)
          · exact ⟨by omega, by omega, hO2⟩
  · refine run_exit rfl ?_
    refine run_seq ?_
    refine run_seq ?_
    refine run_region ?_
    refine rl_v rfl rfl rfl (ov_assign rfl rfl) ?_
    refine rl_nil ?_
    refine run_block ?_
    refine Run.keep [0, 1, 7] (F' := [(0, _), (1, _), (7, _)]) rfl ?_
    refine run_loop1 (fun (k : Int) => [(7, .int .i64 k)]) [0, 1] (fun (k : Int) (w10 : World) => 0 ≤ k ∧ k ≤ l.length ∧ Own w.heap.size w w10 []) (fun (k : Int) => ((l.length : Int) - k).toNat) (0) ?_ (And.intro (by first | with_reducible rfl | exact slot_int rfl (by first | omega) | rfl) (And.intro rfl (And.intro rfl trivial))) ?_
    · exact ⟨by omega, by omega, hO⟩
    intro k w10 hIw10 ih11
    obtain ⟨hk0, hk1, hO⟩ := hIw10
    show Run _ _ _ _ [(7, _), (0, _), (1, _)] _ _
    refine run_seq ?_
    refine run_seq ?_
    refine run_region ?_
    refine rl_v rfl rfl rfl (ov_move rfl rfl) ?_
    refine rl_v rfl rfl rfl (ov_move rfl rfl) ?_
    refine rl_v rfl rfl rfl (ov_len rfl Try.underlying55 rfl) ?_
    refine rl_v rfl rfl rfl (ov_lss rfl rfl rfl) ?_
    refine rl_nil ?_
    first | refine run_cond_dec rfl (fun h5 => ?_) (fun h5 => ?_) | refine run_cond rfl (fun h5 => ?_) (fun h5 => ?_)
    · have hrk := hrng k hk0 h5
      have hm0 : 0 ≤ (k + 1) % (l.length : Int) := Int.emod_nonneg _ (by omega)
      have hm1 : (k + 1) % (l.length : Int) < l.length := Int.emod_lt_of_pos _ (by omega)
      have hrk2 := hrng _ hm0 hm1
      have hpos2 : 0 < D (lF l k) (lF l ((k + 1) % (l.length : Int))) := by
        have := hl.owe k.toNat (by omega)
        unfold lF
        rw [show ((k + 1) % (l.length : Int)).toNat = (k.toNat + 1) % l.length by
          have e : ((k.toNat + 1) % l.length : Nat) = (((k + 1) % (l.length : Int)).toNat : Nat) := by
            apply Int.ofNat.inj
            show (((k.toNat + 1) % l.length : Nat) : Int) = ((((k + 1) % (l.length : Int)).toNat : Nat) : Int)
            rw [Int.toNat_of_nonneg hm0, Int.natCast_emod]
            congr 1
            omega
          exact e.symm]
        exact this
      refine run_skip ?_
      refine run_seq ?_
      refine run_block ?_
      refine run_seq ?_
      refine run_quiet mixed (by kernel_rfl) ?_
      refine rq_v rfl rfl rfl (fun _ => ov_move rfl rfl) ?_
      refine rq_v rfl rfl rfl (fun _ => ov_move rfl rfl) ?_
      refine rq_v rfl rfl rfl (fun _ => ov_move rfl rfl) ?_
      refine rq_v rfl rfl rfl (fun _ => ov_index1 rfl Try.underlying55 (by kernel_rfl) rfl rfl ⟨by omega, by omega⟩ (by first | rfl | exact hga (by omega) | exact hra _ (by omega) (by omega) (by omega) | exact hla (by omega))) ?_
      refine rq_v rfl rfl rfl (fun _ => ov_load rfl Try.underlying3 rfl rfl (by show World.cell? w10 _ = _; first | exact hrow _ hO.below _ (by omega) (by omega) | exact hel _ hO.below _ (by omega) (by omega) _ (by omega) (by omega) | exact hlr _ hO.below _ (by omega) (by omega) | exact hO.cellI 0 rfl _ (by omega) (by omega) | exact hO.cellL 0 rfl rfl | exact hO.cellI 1 rfl _ (by omega) (by omega) | exact hO.cellL 1 rfl rfl | exact hO.cellI 2 rfl _ (by omega) (by omega) | exact hO.cellL 2 rfl rfl | exact hO.cellI 3 rfl _ (by omega) (by omega) | exact hO.cellL 3 rfl rfl | exact hO.cellI 4 rfl _ (by omega) (by omega) | exact hO.cellL 4 rfl rfl | exact hO.cellI 5 rfl _ (by omega) (by omega) | exact hO.cellL 5 rfl rfl)) ?_
      refine rq_v rfl rfl rfl (fun _ => ov_index1 rfl Try.underlying22 (by kernel_rfl) rfl rfl ⟨by omega, by omega⟩ (by first | rfl | exact hga (by omega) | exact hra _ (by omega) (by omega) (by omega) | exact hla (by omega))) ?_
      refine rq_v rfl rfl rfl (fun _ => ov_load rfl Try.underlying23 rfl rfl (by show World.cell? w10 _ = _; first | exact hrow _ hO.below _ (by omega) (by omega) | exact hel _ hO.below _ (by omega) (by omega) _ (by omega) (by omega) | exact hlr _ hO.below _ (by omega) (by omega) | exact hO.cellI 0 rfl _ (by omega) (by omega) | exact hO.cellL 0 rfl rfl | exact hO.cellI 1 rfl _ (by omega) (by omega) | exact hO.cellL 1 rfl rfl | exact hO.cellI 2 rfl _ (by omega) (by omega) | exact hO.cellL 2 rfl rfl | exact hO.cellI 3 rfl _ (by omega) (by omega) | exact hO.cellL 3 rfl rfl | exact hO.cellI 4 rfl _ (by omega) (by omega) | exact hO.cellL 4 rfl rfl | exact hO.cellI 5 rfl _ (by omega) (by omega) | exact hO.cellL 5 rfl rfl)) ?_
      refine rq_v rfl rfl rfl (fun _ => ov_move rfl rfl) ?_
      refine rq_v rfl rfl rfl (fun _ => ov_move rfl rfl) ?_
      refine rq_v rfl rfl rfl (fun _ => ov_add rfl rfl rfl (by omega)) ?_
      refine rq_v rfl rfl rfl (fun _ => ov_move rfl rfl) ?_
      refine rq_v rfl rfl rfl (fun _ => ov_len rfl Try.underlying55 rfl) ?_
      refine rq_v rfl rfl rfl (fun _ => ov_rem rfl rfl rfl (by omega) (by omega)) ?_
      refine rq_v rfl rfl rfl (fun _ => ov_index1 rfl Try.underlying55 (by kernel_rfl) rfl rfl ⟨by omega, by omega⟩ (by first | rfl | exact hga (by omega) | exact hra _ (by omega) (by omega) (by omega) | exact hla (by omega))) ?_
      refine rq_v rfl rfl rfl (fun _ => ov_load rfl Try.underlying3 rfl rfl (by show World.cell? w10 _ = _; first | exact hrow _ hO.below _ (by omega) (by omega) | exact hel _ hO.below _ (by omega) (by omega) _ (by omega) (by omega) | exact hlr _ hO.below _ (by omega) (by omega) | exact hO.cellI 0 rfl _ (by omega) (by omega) | exact hO.cellL 0 rfl rfl | exact hO.cellI 1 rfl _ (by omega) (by omega) | exact hO.cellL 1 rfl rfl | exact hO.cellI 2 rfl _ (by omega) (by omega) | exact hO.cellL 2 rfl rfl | exact hO.cellI 3 rfl _ (by omega) (by omega) | exact hO.cellL 3 rfl rfl | exact hO.cellI 4 rfl _ (by omega) (by omega) | exact hO.cellL 4 rfl rfl | exact hO.cellI 5 rfl _ (by omega) (by omega) | exact hO.cellL 5 rfl rfl)) ?_
      refine rq_v rfl rfl rfl (fun _ => ov_index1 rfl Try.underlying23 (by kernel_rfl) rfl rfl ⟨by omega, by omega⟩ (by first | rfl | exact hga (by omega) | exact hra _ (by omega) (by omega) (by omega) | exact hla (by omega))) ?_
      refine rq_v rfl rfl rfl (fun _ => ov_load rfl Try.underlying2 rfl rfl (by show World.cell? w10 _ = _; first | exact hrow _ hO.below _ (by omega) (by omega) | exact hel _ hO.below _ (by omega) (by omega) _ (by omega) (by omega) | exact hlr _ hO.below _ (by omega) (by omega) | exact hO.cellI 0 rfl _ (by omega) (by omega) | exact hO.cellL 0 rfl rfl | exact hO.cellI 1 rfl _ (by omega) (by omega) | exact hO.cellL 1 rfl rfl | exact hO.cellI 2 rfl _ (by omega) (by omega) | exact hO.cellL 2 rfl rfl | exact hO.cellI 3 rfl _ (by omega) (by omega) | exact hO.cellL 3 rfl rfl | exact hO.cellI 4 rfl _ (by omega) (by omega) | exact hO.cellL 4 rfl rfl | exact hO.cellI 5 rfl _ (by omega) (by omega) | exact hO.cellL 5 rfl rfl)) ?_
      refine rq_v rfl rfl rfl (fun _ => ov_leq rfl rfl rfl) ?_
      refine rq_nil (fun n12 => ?_)
      have hO14 := hO.drewN n12
      generalize World.drewN w10 n12 = w13 at hO14 ⊢
      first | refine run_cond_dec rfl (fun h6 => ?_) (fun h6 => ?_) | refine run_cond rfl (fun h6 => ?_) (fun h6 => ?_)
      · exfalso; omega
      · refine run_skip ?_
        refine run_inBlock ?_
        refine run_region ?_
        refine rl_v rfl rfl rfl (ov_move rfl rfl) ?_
        refine rl_v rfl rfl rfl (ov_add rfl rfl rfl (by omega)) ?_
        refine rl_v rfl rfl rfl (ov_assign rfl rfl) ?_
        refine rl_nil ?_
        refine Run.use (ih11 _ _ ?_ ?_) (And.intro (by first | with_reducible rfl | exact slot_int rfl (by first | omega) | rfl) (And.intro rfl (And.intro rfl trivial)))
        · first | omega | (dsimp only; omega)
        · exact ⟨by omega, by omega, hO14⟩
    · refine run_exit rfl ?_
      refine run_seq ?_
      refine run_region ?_
      refine rl_v rfl rfl rfl (ov_move rfl rfl) ?_
      refine rl_v rfl rfl rfl (ov_len rfl Try.underlying55 rfl) ?_
      refine rl_v rfl rfl rfl (ov_gtr rfl rfl rfl) ?_
      refine rl_v rfl rfl rfl (ov_assign rfl rfl) ?_
      refine rl_nil ?_
      refine run_ret Try.func46 (res1 Try.results46 rfl) ?_
      exact ⟨by congr 2; exact decide_eq_true (by omega), hO.below⟩
end Go.Proofs.Ytiambddcpflkhaa
