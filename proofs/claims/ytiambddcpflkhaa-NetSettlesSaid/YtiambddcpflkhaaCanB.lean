/- Debts: whether a table is a cancelling; its amount; what is left without it. -/
import Derived.Test.YtiambddcpflkhaaCanA
import Derived.Test.YtiambddcpflkhaaNetN
set_option maxRecDepth 100000
namespace Go.Proofs.Ytiambddcpflkhaa
open Go.RowKit Go.Proofs

/-- Whether a table is a cancelling for debts. -/
def Cnl (n : Nat) (D : Int → Int → Int) (m : Nat) (L : Int → Nat) (X : Int → Int → Int) : Prop :=
  m = n ∧ (∀ r : Int, 0 ≤ r → r < n → L r = n) ∧ (∀ i j : Int, 0 ≤ i → i < n → 0 ≤ j → j < n → 0 ≤ X i j ∧ X i j ≤ D i j) ∧ ∀ v : Int, 0 ≤ v → v < n → ps n X v = 0

theorem cancelling_any (ao bo : Option Addr) (n c m cm : Nat) (L : Int → Nat) (D X : Int → Int → Int) (w : World) (hv : Valid n D) (hm : m ≤ 1000000)
    (h : ITab w.heap.size w ao n (fun _ => n) (fun r c => .int .i64 (D r c))) (h2 : ITab w.heap.size w bo m L (fun r c => .int .i64 (X r c))) :
    Calls Try.prog 41 #[.slice ao n c, .slice bo m cm] w fun e w' => (∃ b, e = .returned (.bool b) ∧ (b = true ↔ Cnl n D m L X)) ∧ Below w.heap.size w w' := by
  have hle := hv.le
  obtain ⟨A, C, RB, RO, gb, go, hga, hrow, hra, hel, _⟩ := h.open
  obtain ⟨A2, C2, RB2, RO2, gb2, go2, hga2, hrow2, hra2, hel2, _⟩ := h2.open
  refine calls_of_run (F := [(0, _), (1, _)]) Try.func41 rfl Try.ntmps41 rfl rfl ?_
  have hO0 := Own.init w
  refine run_seq ?_
  refine run_region ?_
  refine rl_v rfl rfl rfl (ov_assign rfl rfl) ?_
  refine rl_nil ?_
  refine run_seq ?_
  refine run_seq ?_
  refine run_region ?_
  refine rl_v rfl rfl rfl (ov_move rfl rfl) ?_
  refine rl_call callable_57 rfl rfl rfl rfl rfl rfl (refCheck_any ao n c (fun _ => n) D _ (by omega) (h.later hO0.below)) (fun e1 w2 hp3 => ?_)
  obtain ⟨rfl, hb⟩ := hp3
  refine ⟨_, rfl, ?_⟩
  have hO4 := hO0.past hb
  rw [hv.chk]
  refine rl_v rfl rfl rfl (ov_neq rfl rfl rfl) ?_
  refine rl_v rfl rfl rfl (ov_move rfl rfl) ?_
  first | refine rl_split_dec 12 rfl (fun g1 => ?_) (fun g1 => ?_) | refine rl_split 12 rfl (fun g1 => ?_) (fun g1 => ?_)
  · refine rl_gskip rfl rfl rfl rfl rfl rfl ?_
    refine rl_gskip rfl rfl rfl rfl rfl rfl ?_
    refine rl_gskip rfl rfl rfl rfl rfl rfl ?_
    refine rl_gskip rfl rfl rfl rfl rfl rfl ?_
    refine rl_gskip rfl rfl rfl rfl rfl rfl ?_
    refine rl_v rfl rfl rfl (ov_pick_t rfl rfl rfl) ?_
    refine rl_nil ?_
    refine run_cond_t rfl ?_
    exfalso; exact g1 rfl
  · refine rl_gv rfl rfl rfl rfl rfl (ov_move rfl rfl) ?_
    refine rl_gv rfl rfl rfl rfl rfl (ov_move rfl rfl) ?_
    refine rl_gv rfl rfl rfl rfl rfl (ov_len rfl Try.underlying22 rfl) ?_
    refine rl_gcall callable_76 rfl rfl rfl rfl rfl rfl rfl rfl (square_any bo m cm n L X _ (by omega) (h2.later hO4.below)) (fun e6 w7 hp8 => ?_)
    obtain ⟨⟨bs, rfl, hbs⟩, hb2⟩ := hp8
    refine ⟨_, rfl, ?_⟩
    have hO9 := hO4.past hb2
    refine rl_gv rfl rfl rfl rfl rfl (ov_not rfl rfl) ?_
    refine rl_v rfl rfl rfl (ov_pick_f rfl rfl rfl) ?_
    refine rl_nil ?_
    first | refine run_cond_dec rfl (fun h3 => ?_) (fun h3 => ?_) | refine run_cond rfl (fun h3 => ?_) (fun h3 => ?_)
    · have hno : ¬ Cnl n D m L X := fun hc => by rw [hbs.2 ⟨by rw [hc.1], fun r r0 r1 => by rw [hc.2.1 r r0 (by have := hc.1; omega)]⟩] at h3; cases h3
      refine run_seq ?_
      refine run_region ?_
      refine rl_v rfl rfl rfl (ov_assign rfl rfl) ?_
      refine rl_nil ?_
      refine run_ret Try.func41 (res1 Try.results41 rfl) ?_
      exact ⟨⟨false, rfl, ⟨fun h => Bool.noConfusion h, fun h => absurd h hno⟩⟩, hO9.below⟩
    · have hbt : bs = true := by cases bs; exact absurd h3 (by decide); rfl
      obtain ⟨hmn, hL⟩ := hbs.1 hbt
      have hmn' : n = m := by omega
      subst hmn'
      refine run_skip ?_
      refine run_seq ?_
      refine run_seq ?_
      refine run_region ?_
      refine rl_v rfl rfl rfl (ov_assign rfl rfl) ?_
      refine rl_nil ?_
      refine run_block ?_
      refine Run.keep [0, 1, 5] (F' := [(0, _), (1, _), (5, _)]) rfl ?_
      refine run_loop1 (fun (k : Int) => [(5, .int .i64 k)]) [0, 1] (fun (k : Int) (w10 : World) => 0 ≤ k ∧ k ≤ n ∧ (∀ i j : Int, 0 ≤ i → i < k → 0 ≤ j → j < n → 0 ≤ X i j ∧ X i j ≤ D i j) ∧ Own w.heap.size w w10 []) (fun (k : Int) => ((n : Int) - k).toNat) (0) ?_ (And.intro (by first | with_reducible rfl | exact slot_int rfl (by first | omega) | rfl) (And.intro rfl (And.intro rfl trivial))) ?_
      · exact ⟨by omega, by omega, fun i j i0 i1 => by omega, hO9⟩
      intro k w10 hIw10 ih11
      obtain ⟨hk0, hk1, hX, hO⟩ := hIw10
      show Run _ _ _ _ [(5, _), (0, _), (1, _)] _ _
      refine run_seq ?_
      refine run_seq ?_
      refine run_region ?_
      refine rl_v rfl rfl rfl (ov_move rfl rfl) ?_
      refine rl_v rfl rfl rfl (ov_move rfl rfl) ?_
      refine rl_v rfl rfl rfl (ov_len rfl Try.underlying22 rfl) ?_
      refine rl_v rfl rfl rfl (ov_lss rfl rfl rfl) ?_
      refine rl_nil ?_
      first | refine run_cond_dec rfl (fun h4 => ?_) (fun h4 => ?_) | refine run_cond rfl (fun h4 => ?_) (fun h4 => ?_)
      · have hLk := hL k hk0 h4
        refine run_skip ?_
        refine run_seq ?_
        refine run_block ?_
        refine run_seq ?_
        refine run_region ?_
        refine rl_v rfl rfl rfl (ov_assign rfl rfl) ?_
        refine rl_nil ?_
        refine run_block ?_
        refine Run.keep [0, 1, 5, 6] (F' := [(0, _), (1, _), (5, _), (6, _)]) rfl ?_
        refine run_loop1 (fun (j : Int) => [(6, .int .i64 j)]) [0, 1, 5] (fun (j : Int) (w12 : World) => 0 ≤ j ∧ j ≤ n ∧ (∀ i : Int, 0 ≤ i → i < j → 0 ≤ X k i ∧ X k i ≤ D k i) ∧ Own w.heap.size w w12 []) (fun (j : Int) => ((n : Int) - j).toNat) (0) ?_ (And.intro (by first | with_reducible rfl | exact slot_int rfl (by first | omega) | rfl) (And.intro rfl (And.intro rfl (And.intro rfl trivial)))) ?_
        · exact ⟨by omega, by omega, fun i i0 i1 => by omega, hO⟩
        intro j w12 hIw12 ih13
        obtain ⟨hj0, hj1, hY, hO2⟩ := hIw12
        show Run _ _ _ _ [(6, _), (0, _), (1, _), (5, _)] _ _
        refine run_seq ?_
        refine run_seq ?_
        refine run_region ?_
        refine rl_v rfl rfl rfl (ov_move rfl rfl) ?_
        refine rl_v rfl rfl rfl (ov_move rfl rfl) ?_
        refine rl_v rfl rfl rfl (ov_len rfl Try.underlying22 rfl) ?_
        refine rl_v rfl rfl rfl (ov_lss rfl rfl rfl) ?_
        refine rl_nil ?_
        first | refine run_cond_dec rfl (fun h5 => ?_) (fun h5 => ?_) | refine run_cond rfl (fun h5 => ?_) (fun h5 => ?_)
        · refine run_skip ?_
          refine run_seq ?_
          refine run_block ?_
          refine run_seq ?_
          refine run_quiet_join mixed (by kernel_rfl) 55 (.bool (decide (X k j < 0 ∨ D k j < X k j))) [0, 1, 5, 6] (fun hk14 => ?_) (fun n15 => ?_)
          · refine rq_v rfl rfl rfl (fun _ => ov_move rfl rfl) ?_
            refine rq_v rfl rfl rfl (fun _ => ov_move rfl rfl) ?_
            refine rq_v rfl rfl rfl (fun _ => ov_index1 rfl Try.underlying22 (by kernel_rfl) rfl rfl ⟨by omega, by omega⟩ (by first | rfl | exact hga (by omega) | exact hra _ (by omega) (by omega) (by omega) | exact hga2 (by omega) | exact hra2 _ (by omega) (by omega) (by omega))) ?_
            refine rq_v rfl rfl rfl (fun _ => ov_load rfl Try.underlying23 rfl rfl (by show World.cell? w12 _ = _; first | exact hrow _ hO2.below _ (by omega) (by omega) | exact hel _ hO2.below _ (by omega) (by omega) _ (by omega) (by omega) | exact hrow2 _ hO2.below _ (by omega) (by omega) | exact hel2 _ hO2.below _ (by omega) (by omega) _ (by omega) (by omega) | exact hO2.cellI 0 rfl _ (by omega) (by omega) | exact hO2.cellL 0 rfl rfl | exact hO2.cellI 1 rfl _ (by omega) (by omega) | exact hO2.cellL 1 rfl rfl | exact hO2.cellI 2 rfl _ (by omega) (by omega) | exact hO2.cellL 2 rfl rfl | exact hO2.cellI 3 rfl _ (by omega) (by omega) | exact hO2.cellL 3 rfl rfl | exact hO2.cellI 4 rfl _ (by omega) (by omega) | exact hO2.cellL 4 rfl rfl | exact hO2.cellI 5 rfl _ (by omega) (by omega) | exact hO2.cellL 5 rfl rfl)) ?_
            refine rq_v rfl rfl rfl (fun _ => ov_move rfl rfl) ?_
            refine rq_v rfl rfl rfl (fun _ => ov_index1 rfl Try.underlying23 (by kernel_rfl) rfl rfl ⟨by omega, by omega⟩ (by first | rfl | exact hga (by omega) | exact hra _ (by omega) (by omega) (by omega) | exact hga2 (by omega) | exact hra2 _ (by omega) (by omega) (by omega))) ?_
            refine rq_v rfl rfl rfl (fun _ => ov_load rfl Try.underlying2 rfl rfl (by show World.cell? w12 _ = _; first | exact hrow _ hO2.below _ (by omega) (by omega) | exact hel _ hO2.below _ (by omega) (by omega) _ (by omega) (by omega) | exact hrow2 _ hO2.below _ (by omega) (by omega) | exact hel2 _ hO2.below _ (by omega) (by omega) _ (by omega) (by omega) | exact hO2.cellI 0 rfl _ (by omega) (by omega) | exact hO2.cellL 0 rfl rfl | exact hO2.cellI 1 rfl _ (by omega) (by omega) | exact hO2.cellL 1 rfl rfl | exact hO2.cellI 2 rfl _ (by omega) (by omega) | exact hO2.cellL 2 rfl rfl | exact hO2.cellI 3 rfl _ (by omega) (by omega) | exact hO2.cellL 3 rfl rfl | exact hO2.cellI 4 rfl _ (by omega) (by omega) | exact hO2.cellL 4 rfl rfl | exact hO2.cellI 5 rfl _ (by omega) (by omega) | exact hO2.cellL 5 rfl rfl)) ?_
            refine rq_v rfl rfl rfl (fun _ => ov_lss rfl rfl rfl) ?_
            refine rq_v rfl rfl rfl (fun _ => ov_move rfl rfl) ?_
            first | refine rq_split_dec 39 rfl (fun hg16 => ?_) (fun hg16 => ?_) | refine rq_split 39 rfl (fun hg16 => ?_) (fun hg16 => ?_)
            · refine rq_gskip rfl rfl rfl rfl rfl rfl ?_
              refine rq_gskip rfl rfl rfl rfl rfl rfl ?_
              refine rq_gskip rfl rfl rfl rfl rfl rfl ?_
              refine rq_gskip rfl rfl rfl rfl rfl rfl ?_
              refine rq_gskip rfl rfl rfl rfl rfl rfl ?_
              refine rq_gskip rfl rfl rfl rfl rfl rfl ?_
              refine rq_gskip rfl rfl rfl rfl rfl rfl ?_
              refine rq_gskip rfl rfl rfl rfl rfl rfl ?_
              refine rq_gskip rfl rfl rfl rfl rfl rfl ?_
              refine rq_gskip rfl rfl rfl rfl rfl rfl ?_
              refine rq_gskip rfl rfl rfl rfl rfl rfl ?_
              refine rq_gskip rfl rfl rfl rfl rfl rfl ?_
              refine rq_gskip rfl rfl rfl rfl rfl rfl ?_
              refine rq_gskip rfl rfl rfl rfl rfl rfl ?_
              refine rq_gskip rfl rfl rfl rfl rfl rfl ?_
              refine rq_v rfl rfl rfl (fun _ => ov_pick_t rfl rfl rfl) ?_
              refine rq_nil (fun n => hk14 n _ (jbt rfl (by first | omega | grind)) (And.intro rfl (And.intro rfl (And.intro rfl (And.intro rfl trivial)))))
            · refine rq_gv rfl rfl rfl rfl rfl (fun _ => ov_move rfl rfl) ?_
              refine rq_gv rfl rfl rfl rfl rfl (fun _ => ov_move rfl rfl) ?_
              refine rq_gv rfl rfl rfl rfl rfl (fun _ => ov_index1 rfl Try.underlying22 (by kernel_rfl) rfl rfl ⟨by omega, by omega⟩ (by first | rfl | exact hga (by omega) | exact hra _ (by omega) (by omega) (by omega) | exact hga2 (by omega) | exact hra2 _ (by omega) (by omega) (by omega))) ?_
              refine rq_gv rfl rfl rfl rfl rfl (fun _ => ov_load rfl Try.underlying23 rfl rfl (by show World.cell? w12 _ = _; first | exact hrow _ hO2.below _ (by omega) (by omega) | exact hel _ hO2.below _ (by omega) (by omega) _ (by omega) (by omega) | exact hrow2 _ hO2.below _ (by omega) (by omega) | exact hel2 _ hO2.below _ (by omega) (by omega) _ (by omega) (by omega) | exact hO2.cellI 0 rfl _ (by omega) (by omega) | exact hO2.cellL 0 rfl rfl | exact hO2.cellI 1 rfl _ (by omega) (by omega) | exact hO2.cellL 1 rfl rfl | exact hO2.cellI 2 rfl _ (by omega) (by omega) | exact hO2.cellL 2 rfl rfl | exact hO2.cellI 3 rfl _ (by omega) (by omega) | exact hO2.cellL 3 rfl rfl | exact hO2.cellI 4 rfl _ (by omega) (by omega) | exact hO2.cellL 4 rfl rfl | exact hO2.cellI 5 rfl _ (by omega) (by omega) | exact hO2.cellL 5 rfl rfl)) ?_
              refine rq_gv rfl rfl rfl rfl rfl (fun _ => ov_move rfl rfl) ?_
              refine rq_gv rfl rfl rfl rfl rfl (fun _ => ov_index1 rfl Try.underlying23 (by kernel_rfl) rfl rfl ⟨by omega, by omega⟩ (by first | rfl | exact hga (by omega) | exact hra _ (by omega) (by omega) (by omega) | exact hga2 (by omega) | exact hra2 _ (by omega) (by omega) (by omega))) ?_
              refine rq_gv rfl rfl rfl rfl rfl (fun _ => ov_load rfl Try.underlying2 rfl rfl (by show World.cell? w12 _ = _; first | exact hrow _ hO2.below _ (by omega) (by omega) | exact hel _ hO2.below _ (by omega) (by omega) _ (by omega) (by omega) | exact hrow2 _ hO2.below _ (by omega) (by omega) | exact hel2 _ hO2.below _ (by omega) (by omega) _ (by omega) (by omega) | exact hO2.cellI 0 rfl _ (by omega) (by omega) | exact hO2.cellL 0 rfl rfl | exact hO2.cellI 1 rfl _ (by omega) (by omega) | exact hO2.cellL 1 rfl rfl | exact hO2.cellI 2 rfl _ (by omega) (by omega) | exact hO2.cellL 2 rfl rfl | exact hO2.cellI 3 rfl _ (by omega) (by omega) | exact hO2.cellL 3 rfl rfl | exact hO2.cellI 4 rfl _ (by omega) (by omega) | exact hO2.cellL 4 rfl rfl | exact hO2.cellI 5 rfl _ (by omega) (by omega) | exact hO2.cellL 5 rfl rfl)) ?_
              refine rq_gv rfl rfl rfl rfl rfl (fun _ => ov_move rfl rfl) ?_
              refine rq_gv rfl rfl rfl rfl rfl (fun _ => ov_move rfl rfl) ?_
              refine rq_gv rfl rfl rfl rfl rfl (fun _ => ov_index1 rfl Try.underlying22 (by kernel_rfl) rfl rfl ⟨by omega, by omega⟩ (by first | rfl | exact hga (by omega) | exact hra _ (by omega) (by omega) (by omega) | exact hga2 (by omega) | exact hra2 _ (by omega) (by omega) (by omega))) ?_
              refine rq_gv rfl rfl rfl rfl rfl (fun _ => ov_load rfl Try.underlying23 rfl rfl (by show World.cell? w12 _ = _; first | exact hrow _ hO2.below _ (by omega) (by omega) | exact hel _ hO2.below _ (by omega) (by omega) _ (by omega) (by omega) | exact hrow2 _ hO2.below _ (by omega) (by omega) | exact hel2 _ hO2.below _ (by omega) (by omega) _ (by omega) (by omega) | exact hO2.cellI 0 rfl _ (by omega) (by omega) | exact hO2.cellL 0 rfl rfl | exact hO2.cellI 1 rfl _ (by omega) (by omega) | exact hO2.cellL 1 rfl rfl | exact hO2.cellI 2 rfl _ (by omega) (by omega) | exact hO2.cellL 2 rfl rfl | exact hO2.cellI 3 rfl _ (by omega) (by omega) | exact hO2.cellL 3 rfl rfl | exact hO2.cellI 4 rfl _ (by omega) (by omega) | exact hO2.cellL 4 rfl rfl | exact hO2.cellI 5 rfl _ (by omega) (by omega) | exact hO2.cellL 5 rfl rfl)) ?_
              refine rq_gv rfl rfl rfl rfl rfl (fun _ => ov_move rfl rfl) ?_
              refine rq_gv rfl rfl rfl rfl rfl (fun _ => ov_index1 rfl Try.underlying23 (by kernel_rfl) rfl rfl ⟨by omega, by omega⟩ (by first | rfl | exact hga (by omega) | exact hra _ (by omega) (by omega) (by omega) | exact hga2 (by omega) | exact hra2 _ (by omega) (by omega) (by omega))) ?_
              refine rq_gv rfl rfl rfl rfl rfl (fun _ => ov_load rfl Try.underlying2 rfl rfl (by show World.cell? w12 _ = _; first | exact hrow _ hO2.below _ (by omega) (by omega) | exact hel _ hO2.below _ (by omega) (by omega) _ (by omega) (by omega) | exact hrow2 _ hO2.below _ (by omega) (by omega) | exact hel2 _ hO2.below _ (by omega) (by omega) _ (by omega) (by omega) | exact hO2.cellI 0 rfl _ (by omega) (by omega) | exact hO2.cellL 0 rfl rfl | exact hO2.cellI 1 rfl _ (by omega) (by omega) | exact hO2.cellL 1 rfl rfl | exact hO2.cellI 2 rfl _ (by omega) (by omega) | exact hO2.cellL 2 rfl rfl | exact hO2.cellI 3 rfl _ (by omega) (by omega) | exact hO2.cellL 3 rfl rfl | exact hO2.cellI 4 rfl _ (by omega) (by omega) | exact hO2.cellL 4 rfl rfl | exact hO2.cellI 5 rfl _ (by omega) (by omega) | exact hO2.cellL 5 rfl rfl)) ?_
              refine rq_gv rfl rfl rfl rfl rfl (fun _ => ov_gtr rfl rfl rfl) ?_
              refine rq_v rfl rfl rfl (fun _ => ov_pick_f rfl rfl rfl) ?_
              refine rq_nil (fun n => hk14 n _ (jbd rfl (by first | omega | grind)) (And.intro rfl (And.intro rfl (And.intro rfl (And.intro rfl trivial)))))
          · have hO18 := hO2.drewN n15
            generalize World.drewN w12 n15 = w17 at hO18 ⊢
            show Run _ _ _ _ [(55, _), (0, _), (1, _), (5, _), (6, _)] _ _
            first | refine run_cond_dec rfl (fun h6 => ?_) (fun h6 => ?_) | refine run_cond rfl (fun h6 => ?_) (fun h6 => ?_)
            · refine run_seq ?_
              refine run_region ?_
              refine rl_v rfl rfl rfl (ov_assign rfl rfl) ?_
              refine rl_nil ?_
              refine run_ret Try.func41 (res1 Try.results41 rfl) ?_
              exact ⟨⟨false, rfl, ⟨fun h => Bool.noConfusion h, fun hc => by have := hc.2.2.1 k j hk0 h4 hj0 h5; omega⟩⟩, hO18.below⟩
            · refine run_skip ?_
              refine run_inBlock ?_
              refine run_region ?_
              refine rl_v rfl rfl rfl (ov_move rfl rfl) ?_
              refine rl_v rfl rfl rfl (ov_add rfl rfl rfl (by omega)) ?_
              refine rl_v rfl rfl rfl (ov_assign rfl rfl) ?_
              refine rl_nil ?_
              refine Run.use (ih13 _ _ ?_ ?_) (And.intro (by first | with_reducible rfl | exact slot_int rfl (by first | omega) | rfl) (And.intro rfl (And.intro rfl (And.intro rfl trivial))))
              · first | omega | (dsimp only; omega)
              · exact ⟨by omega, by omega, fun i i0 i1 => (by omega : i = j ∨ i < j).elim (fun e => by rw [e]; omega) (fun e => hY i i0 e), hO18⟩
        · refine run_exit rfl ?_
          refine run_inBlock ?_
          refine run_region ?_
          refine rl_v rfl rfl rfl (ov_move rfl rfl) ?_
          refine rl_v rfl rfl rfl (ov_add rfl rfl rfl (by omega)) ?_
          refine rl_v rfl rfl rfl (ov_assign rfl rfl) ?_
          refine rl_nil ?_
          refine Run.use (ih11 _ _ ?_ ?_) (And.intro (by first | with_reducible rfl | exact slot_int rfl (by first | omega) | rfl) (And.intro rfl (And.intro rfl trivial)))
          · first | omega | (dsimp only; omega)
          · exact ⟨by omega, by omega, fun i i2 i0 i1 j0 j1 => (by omega : i = k ∨ i < k).elim (fun e => by rw [e]; exact hY i2 j0 (by omega)) (fun e => hX i i2 i0 e j0 j1), hO2⟩
      · have hXX : ∀ i j : Int, 0 ≤ i → i < n → 0 ≤ j → j < n → 0 ≤ X i j ∧ X i j ≤ D i j := fun i j i0 i1 => hX i j i0 (by omega)
        have hLL : ∀ r : Int, 0 ≤ r → r < n → L r = n := fun r r0 r1 => by have := hL r r0 r1; omega
        have h2' : ITab w.heap.size w bo n (fun _ => n) (fun r c => .int .i64 (X r c)) := by
          obtain ⟨A', C', q1, q2⟩ := h2
          exact ⟨A', C', q1.congr fun i i0 i1 => by rw [hLL i i0 i1], fun r r0 r1 => by have := q2 r r0 r1; rw [hLL r r0 r1] at this; exact this⟩
        refine run_exit rfl ?_
        refine run_seq ?_
        refine run_region ?_
        refine rl_v rfl rfl rfl (ov_move rfl rfl) ?_
        refine rl_call callable_47 rfl rfl rfl rfl rfl rfl (refPositions_any bo n cm X _ hle (fun i j i0 i1 j0 j1 => by have := hXX i j i0 i1 j0 j1; have := hv.hi i j; omega) (h2'.later hO.below)) (fun e19 w20 hp21 => ?_)
        obtain ⟨b7, rfl, hOp⟩ := hp21
        refine ⟨_, rfl, ?_⟩
        have hO22 := hO.join hOp
        refine rl_v rfl rfl rfl (ov_assign rfl rfl) ?_
        refine rl_nil ?_
        refine run_seq ?_
        refine run_seq ?_
        refine run_region ?_
        refine rl_v rfl rfl rfl (ov_assign rfl rfl) ?_
        refine rl_nil ?_
        refine run_block ?_
        refine Run.keep [7, 8] (F' := [(7, _), (8, _)]) rfl ?_
        refine run_loop1 (fun (k : Int) => [(8, .int .i64 k)]) [7] (fun (k : Int) (w23 : World) => 0 ≤ k ∧ k ≤ n ∧ (∀ v : Int, 0 ≤ v → v < k → ps n X v = 0) ∧ Own w.heap.size w w23 [some (vch b7 2 n (fun i => .int .i64 (ps n X i)))]) (fun (k : Int) => ((n : Int) - k).toNat) (0) ?_ (And.intro (by first | with_reducible rfl | exact slot_int rfl (by first | omega) | rfl) (And.intro rfl trivial)) ?_
        · exact ⟨by omega, by omega, fun i i0 i1 => by omega, hO22⟩
        intro k w23 hIw23 ih24
        obtain ⟨hk0, hk1, hZ, hO⟩ := hIw23
        show Run _ _ _ _ [(8, _), (7, _)] _ _
        refine run_seq ?_
        refine run_seq ?_
        refine run_region ?_
        refine rl_v rfl rfl rfl (ov_move rfl rfl) ?_
        refine rl_v rfl rfl rfl (ov_move rfl rfl) ?_
        refine rl_v rfl rfl rfl (ov_len rfl Try.underlying23 rfl) ?_
        refine rl_v rfl rfl rfl (ov_lss rfl rfl rfl) ?_
        refine rl_nil ?_
        first | refine run_cond_dec rfl (fun h7 => ?_) (fun h7 => ?_) | refine run_cond rfl (fun h7 => ?_) (fun h7 => ?_)
        · refine run_skip ?_
          refine run_seq ?_
          refine run_block ?_
          refine run_seq ?_
          refine run_region ?_
          refine rl_v rfl rfl rfl (ov_move rfl rfl) ?_
          refine rl_v rfl rfl rfl (ov_move rfl rfl) ?_
          refine rl_v rfl rfl rfl (ov_index1 rfl Try.underlying23 (by kernel_rfl) rfl rfl ⟨by omega, by omega⟩ (by first | rfl | exact hga (by omega) | exact hra _ (by omega) (by omega) (by omega) | exact hga2 (by omega) | exact hra2 _ (by omega) (by omega) (by omega))) ?_
          refine rl_v rfl rfl rfl (ov_load rfl Try.underlying2 rfl rfl (by first | exact hO.cellI 0 rfl k hk0 (by omega))) ?_
          refine rl_v rfl rfl rfl (ov_neq rfl rfl rfl) ?_
          refine rl_nil ?_
          first | refine run_cond_dec rfl (fun h8 => ?_) (fun h8 => ?_) | refine run_cond rfl (fun h8 => ?_) (fun h8 => ?_)
          · refine run_seq ?_
            refine run_region ?_
            refine rl_v rfl rfl rfl (ov_assign rfl rfl) ?_
            refine rl_nil ?_
            refine run_ret Try.func41 (res1 Try.results41 rfl) ?_
            exact ⟨⟨false, rfl, ⟨fun h => Bool.noConfusion h, fun hc => absurd (hc.2.2.2 k hk0 h7) h8⟩⟩, hO.below⟩
          · refine run_skip ?_
            refine run_inBlock ?_
            refine run_region ?_
            refine rl_v rfl rfl rfl (ov_move rfl rfl) ?_
            refine rl_v rfl rfl rfl (ov_add rfl rfl rfl (by omega)) ?_
            refine rl_v rfl rfl rfl (ov_assign rfl rfl) ?_
            refine rl_nil ?_
            refine Run.use (ih24 _ _ ?_ ?_) (And.intro (by first | with_reducible rfl | exact slot_int rfl (by first | omega) | rfl) (And.intro rfl trivial))
            · first | omega | (dsimp only; omega)
            · exact ⟨by omega, by omega, fun i i0 i1 => (by omega : i = k ∨ i < k).elim (fun e => by rw [e]; exact Classical.not_not.1 h8) (fun e => hZ i i0 e), hO⟩
        · refine run_exit rfl ?_
          refine run_seq ?_
          refine run_region ?_
          refine rl_v rfl rfl rfl (ov_assign rfl rfl) ?_
          refine rl_nil ?_
          refine run_ret Try.func41 (res1 Try.results41 rfl) ?_
          exact ⟨⟨true, rfl, ⟨fun _ => ⟨rfl, hLL, hXX, fun v v0 v1 => hZ v v0 (by omega)⟩, fun _ => rfl⟩⟩, hO.below⟩

theorem gs_rng' {n : Nat} {D : Int → Int → Int} (hn : n ≤ 32) {i k v : Int} (hD : ∀ i' j : Int, 0 ≤ i' → i' < i → 0 ≤ j → j < n → 0 ≤ D i' j ∧ D i' j ≤ 1000000) (hR : ∀ j : Int, 0 ≤ j → j < k → 0 ≤ D i j ∧ D i j ≤ 1000000) (i0 : 0 ≤ i) (i1 : i < n) (k0 : 0 ≤ k) (k1 : k ≤ n) (v0 : 0 ≤ v) (v1 : v < n) : -100000000 ≤ gs n D i k v ∧ gs n D i k v ≤ 100000000 := by
  have h1 : 0 ≤ sm (fun r => D r v) i := sm_nonneg fun r r0 r1 => (hD r v r0 r1 v0 v1).1
  have h2 : sm (fun r => D r v) i ≤ i * 1000000 := sm_bound _ i0 fun r r0 r1 => (hD r v r0 r1 v0 v1).2
  have h5 : 0 ≤ sm (D i) k := sm_nonneg fun r r0 r1 => (hR r r0 r1).1
  have h6 : sm (D i) k ≤ k * 1000000 := sm_bound _ k0 fun r r0 r1 => (hR r r0 r1).2
  have h7 : v < k → 0 ≤ D i v ∧ D i v ≤ 1000000 := hR v v0
  have h3 : v < i → 0 ≤ sm (D v) n ∧ sm (D v) n ≤ n * 1000000 := fun q => ⟨sm_nonneg fun r r0 r1 => (hD v r v0 q r0 r1).1, sm_bound _ (by omega) fun r r0 r1 => (hD v r v0 q r0 r1).2⟩
  unfold gs
  split <;> split <;> split <;> omega

theorem nonzeroTells : Tells 75 #[] (fun x => decide (x ≠ 0)) := by
  intro x w
  refine calls_of_run (F := [(0, _)]) Try.func75 rfl Try.ntmps75 rfl rfl ?_
  have hO0 := Own.init w
  refine run_seq ?_
  refine run_region ?_
  refine rl_v rfl rfl rfl (ov_assign rfl rfl) ?_
  refine rl_nil ?_
  refine run_seq ?_
  refine run_region ?_
  refine rl_v rfl rfl rfl (ov_move rfl rfl) ?_
  refine rl_v rfl rfl rfl (ov_neq rfl rfl rfl) ?_
  refine rl_v rfl rfl rfl (ov_assign rfl rfl) ?_
  refine rl_nil ?_
  refine run_ret Try.func75 (res1 Try.results75 rfl) ?_
  exact ⟨rfl, hO0.below⟩

theorem isCancelling_any (ao bo : Option Addr) (n c m cm : Nat) (L : Int → Nat) (D X : Int → Int → Int) (w : World) (hv : Valid n D) (hm : m ≤ 1000000)
    (h : ITab w.heap.size w ao n (fun _ => n) (fun r c => .int .i64 (D r c))) (h2 : ITab w.heap.size w bo m L (fun r c => .int .i64 (X r c))) :
    Calls Try.prog 40 #[.slice ao n c, .slice bo m cm] w fun e w' => (∃ b, e = .returned (.bool b) ∧ (b = true ↔ Cnl n D m L X)) ∧ Below w.heap.size w w' := by
  have hle := hv.le
  obtain ⟨A, C, RB, RO, gb, go, hga, hrow, hra, hel, _⟩ := h.open
  obtain ⟨A2, C2, RB2, RO2, gb2, go2, hga2, hrow2, hra2, hel2, _⟩ := h2.open
  refine calls_of_run (F := [(0, _), (1, _)]) Try.func40 rfl Try.ntmps40 rfl rfl ?_
  have hO0 := Own.init w
  refine run_seq ?_
  refine run_region ?_
  refine rl_v rfl rfl rfl (ov_assign rfl rfl) ?_
  refine rl_nil ?_
  refine run_seq ?_
  refine run_seq ?_
  refine run_region ?_
  refine rl_v rfl rfl rfl (ov_move rfl rfl) ?_
  refine rl_call callable_58 rfl rfl rfl rfl rfl rfl (check_any ao n c (fun _ => n) D _ (by omega) (h.later hO0.below)) (fun e1 w2 hp3 => ?_)
  obtain ⟨rfl, hb⟩ := hp3
  refine ⟨_, rfl, ?_⟩
  have hO4 := hO0.past hb
  rw [hv.chk]
  refine rl_v rfl rfl rfl (ov_neq rfl rfl rfl) ?_
  refine rl_v rfl rfl rfl (ov_move rfl rfl) ?_
  first | refine rl_split_dec 13 rfl (fun g1 => ?_) (fun g1 => ?_) | refine rl_split 13 rfl (fun g1 => ?_) (fun g1 => ?_)
  · refine rl_gskip rfl rfl rfl rfl rfl rfl ?_
    refine rl_gskip rfl rfl rfl rfl rfl rfl ?_
    refine rl_gskip rfl rfl rfl rfl rfl rfl ?_
    refine rl_gskip rfl rfl rfl rfl rfl rfl ?_
    refine rl_gskip rfl rfl rfl rfl rfl rfl ?_
    refine rl_v rfl rfl rfl (ov_pick_t rfl rfl rfl) ?_
    refine rl_nil ?_
    refine run_cond_t rfl ?_
    exfalso; exact g1 rfl
  · refine rl_gv rfl rfl rfl rfl rfl (ov_move rfl rfl) ?_
    refine rl_gv rfl rfl rfl rfl rfl (ov_len rfl Try.underlying22 rfl) ?_
    refine rl_gv rfl rfl rfl rfl rfl (ov_move rfl rfl) ?_
    refine rl_gv rfl rfl rfl rfl rfl (ov_len rfl Try.underlying22 rfl) ?_
    refine rl_gv rfl rfl rfl rfl rfl (ov_neq rfl rfl rfl) ?_
    refine rl_v rfl rfl rfl (ov_pick_f rfl rfl rfl) ?_
    refine rl_nil ?_
    first | refine run_cond_dec rfl (fun h3 => ?_) (fun h3 => ?_) | refine run_cond rfl (fun h3 => ?_) (fun h3 => ?_)
    · refine run_seq ?_
      refine run_region ?_
      refine rl_v rfl rfl rfl (ov_assign rfl rfl) ?_
      refine rl_nil ?_
      refine run_ret Try.func40 (res1 Try.results40 rfl) ?_
      exact ⟨⟨false, rfl, ⟨fun h => Bool.noConfusion h, fun hc => absurd (by rw [hc.1]) h3⟩⟩, hO4.below⟩
    · have hmn' : n = m := by omega
      subst hmn'
      refine run_skip ?_
      refine run_seq ?_
      refine run_region ?_
      refine rl_v rfl rfl rfl (ov_move rfl rfl) ?_
      refine rl_v rfl rfl rfl (ov_len rfl Try.underlying22 rfl) ?_
      refine rl_make (n) rfl rfl rfl rfl Try.underlying23 info_2 rfl hO4 rfl rfl (by first | rfl | omega) (by first | rfl | omega) ⟨by omega, by omega⟩ (fun b w6 hO7 hs8 => ?_)
      refine rl_v rfl rfl rfl (ov_assign rfl rfl) ?_
      refine rl_nil ?_
      refine run_seq ?_
      refine run_seq ?_
      refine run_region ?_
      refine rl_v rfl rfl rfl (ov_move rfl rfl) ?_
      refine rl_v rfl rfl rfl (ov_len rfl Try.underlying22 rfl) ?_
      refine rl_v rfl rfl rfl (ov_move rfl rfl) ?_
      refine rl_nil ?_
      refine run_block ?_
      refine Run.keep [0, 5, 23, 24, 25] (F' := [(0, _), (5, _), (23, _), (24, _), (25, _)]) rfl ?_
      refine run_loop2 (fun (k : Int) (g : Int → Int) => [(25, .int .i64 k)]) [0, 5, 23, 24] (fun (k : Int) (g : Int → Int) (w9 : World) => 0 ≤ k ∧ k ≤ n ∧ (∀ r : Int, 0 ≤ r → r < k → L r = n) ∧ (∀ i j : Int, 0 ≤ i → i < k → 0 ≤ j → j < n → 0 ≤ X i j ∧ X i j ≤ D i j) ∧ (∀ v : Int, 0 ≤ v → v < n → g v = - gs n X k 0 v) ∧ Own w.heap.size w w9 [some (vch b 2 n (fun i => .int .i64 (g i)))]) (fun (k : Int) (g : Int → Int) => ((n : Int) - k).toNat) (0) (fun _ => 0) ?_ (And.intro (by first | with_reducible rfl | exact slot_int rfl (by first | omega) | rfl) (And.intro rfl (And.intro rfl (And.intro rfl (And.intro rfl trivial))))) ?_
      · exact ⟨by omega, by omega, fun r r0 r1 => by omega, fun i j i0 i1 => by omega, fun v v0 v1 => by rw [gs_zero n X v v0]; rfl, hO7⟩
      intro k g w9 hIw9 ih10
      obtain ⟨hk0, hk1, hL, hX, hg, hO⟩ := hIw9
      show Run _ _ _ _ [(25, _), (0, _), (5, _), (23, _), (24, _)] _ _
      refine run_seq ?_
      refine run_region ?_
      refine rl_v rfl rfl rfl (ov_lss rfl rfl rfl) ?_
      refine rl_nil ?_
      refine run_seq ?_
      first | refine run_cond_dec rfl (fun h4 => ?_) (fun h4 => ?_) | refine run_cond rfl (fun h4 => ?_) (fun h4 => ?_)
      · refine run_skip ?_
        refine run_seq ?_
        refine run_block ?_
        refine run_seq ?_
        refine run_region ?_
        refine rl_v rfl rfl rfl (ov_move rfl rfl) ?_
        refine rl_v rfl rfl rfl (ov_index1 rfl Try.underlying22 (by kernel_rfl) rfl rfl ⟨by omega, by omega⟩ (by first | rfl | exact hga (by omega) | exact hra _ (by omega) (by omega) (by omega) | exact hga2 (by omega) | exact hra2 _ (by omega) (by omega) (by omega))) ?_
        refine rl_v rfl rfl rfl (ov_load rfl Try.underlying23 rfl rfl (by first | exact hrow _ hO.below _ (by omega) (by omega) | exact hel _ hO.below _ (by omega) (by omega) _ (by omega) (by omega) | exact hrow2 _ hO.below _ (by omega) (by omega) | exact hel2 _ hO.below _ (by omega) (by omega) _ (by omega) (by omega) | exact hO.cellI 0 rfl _ (by omega) (by omega) | exact hO.cellL 0 rfl rfl | exact hO.cellI 1 rfl _ (by omega) (by omega) | exact hO.cellL 1 rfl rfl | exact hO.cellI 2 rfl _ (by omega) (by omega) | exact hO.cellL 2 rfl rfl | exact hO.cellI 3 rfl _ (by omega) (by omega) | exact hO.cellL 3 rfl rfl | exact hO.cellI 4 rfl _ (by omega) (by omega) | exact hO.cellL 4 rfl rfl | exact hO.cellI 5 rfl _ (by omega) (by omega) | exact hO.cellL 5 rfl rfl)) ?_
        refine rl_v rfl rfl rfl (ov_assign rfl rfl) ?_
        refine rl_v rfl rfl rfl (ov_assign rfl rfl) ?_
        refine rl_nil ?_
        refine run_seq ?_
        refine run_seq ?_
        refine run_region ?_
        refine rl_v rfl rfl rfl (ov_move rfl rfl) ?_
        refine rl_v rfl rfl rfl (ov_len rfl Try.underlying23 rfl) ?_
        refine rl_v rfl rfl rfl (ov_move rfl rfl) ?_
        refine rl_v rfl rfl rfl (ov_len rfl Try.underlying22 rfl) ?_
        refine rl_v rfl rfl rfl (ov_neq rfl rfl rfl) ?_
        refine rl_nil ?_
        first | refine run_cond_dec rfl (fun h5 => ?_) (fun h5 => ?_) | refine run_cond rfl (fun h5 => ?_) (fun h5 => ?_)
        · refine run_seq ?_
          refine run_region ?_
          refine rl_v rfl rfl rfl (ov_assign rfl rfl) ?_
          refine rl_nil ?_
          refine run_ret Try.func40 (res1 Try.results40 rfl) ?_
          exact ⟨⟨false, rfl, ⟨fun h => Bool.noConfusion h, fun hc => absurd (by rw [hc.2.1 k hk0 h4]) h5⟩⟩, hO.below⟩
        · have hLk : L k = n := by omega
          refine run_skip ?_
          refine run_seq ?_
          refine run_region ?_
          refine rl_v rfl rfl rfl (ov_move rfl rfl) ?_
          refine rl_v rfl rfl rfl (ov_len rfl Try.underlying23 rfl) ?_
          refine rl_v rfl rfl rfl (ov_move rfl rfl) ?_
          refine rl_nil ?_
          refine run_block ?_
          refine Run.keep [0, 5, 6, 23, 24, 25, 35, 36, 37] (F' := [(0, _), (5, _), (6, _), (23, _), (24, _), (25, _), (35, _), (36, _), (37, _)]) rfl ?_
          refine run_loop2 (fun (j : Int) (g2 : Int → Int) => [(37, .int .i64 j)]) [0, 5, 6, 23, 24, 25, 35, 36] (fun (j : Int) (g2 : Int → Int) (w11 : World) => 0 ≤ j ∧ j ≤ n ∧ (∀ i : Int, 0 ≤ i → i < j → 0 ≤ X k i ∧ X k i ≤ D k i) ∧ (∀ v : Int, 0 ≤ v → v < n → g2 v = - gs n X k j v) ∧ Own w.heap.size w w11 [some (vch b 2 n (fun i => .int .i64 (g2 i)))]) (fun (j : Int) (g2 : Int → Int) => ((n : Int) - j).toNat) (0) (g) ?_ (And.intro (by first | with_reducible rfl | exact slot_int rfl (by first | omega) | rfl) (And.intro rfl (And.intro rfl (And.intro rfl (And.intro rfl (And.intro rfl (And.intro rfl (And.intro rfl (And.intro rfl trivial))))))))) ?_
          · exact ⟨by omega, by omega, fun i i0 i1 => by omega, hg, hO⟩
          intro j g2 w11 hIw11 ih12
          obtain ⟨hj0, hj1, hY, hg2, hO2⟩ := hIw11
          show Run _ _ _ _ [(37, _), (0, _), (5, _), (6, _), (23, _), (24, _), (25, _), (35, _), (36, _)] _ _
          refine run_seq ?_
          refine run_region ?_
          refine rl_v rfl rfl rfl (ov_lss rfl rfl rfl) ?_
          refine rl_nil ?_
          refine run_seq ?_
          first | refine run_cond_dec rfl (fun h6 => ?_) (fun h6 => ?_) | refine run_cond rfl (fun h6 => ?_) (fun h6 => ?_)
          · refine run_skip ?_
            refine run_seq ?_
            refine run_block ?_
            refine run_seq ?_
            refine run_region ?_
            refine rl_v rfl rfl rfl (ov_move rfl rfl) ?_
            refine rl_v rfl rfl rfl (ov_index1 rfl Try.underlying23 (by kernel_rfl) rfl rfl ⟨by omega, by omega⟩ (by first | rfl | exact hga (by omega) | exact hra _ (by omega) (by omega) (by omega) | exact hga2 (by omega) | exact hra2 _ (by omega) (by omega) (by omega))) ?_
            refine rl_v rfl rfl rfl (ov_load rfl Try.underlying2 rfl rfl (by first | exact hrow _ hO2.below _ (by omega) (by omega) | exact hel _ hO2.below _ (by omega) (by omega) _ (by omega) (by omega) | exact hrow2 _ hO2.below _ (by omega) (by omega) | exact hel2 _ hO2.below _ (by omega) (by omega) _ (by omega) (by omega) | exact hO2.cellI 0 rfl _ (by omega) (by omega) | exact hO2.cellL 0 rfl rfl | exact hO2.cellI 1 rfl _ (by omega) (by omega) | exact hO2.cellL 1 rfl rfl | exact hO2.cellI 2 rfl _ (by omega) (by omega) | exact hO2.cellL 2 rfl rfl | exact hO2.cellI 3 rfl _ (by omega) (by omega) | exact hO2.cellL 3 rfl rfl | exact hO2.cellI 4 rfl _ (by omega) (by omega) | exact hO2.cellL 4 rfl rfl | exact hO2.cellI 5 rfl _ (by omega) (by omega) | exact hO2.cellL 5 rfl rfl)) ?_
            refine rl_v rfl rfl rfl (ov_assign rfl rfl) ?_
            refine rl_v rfl rfl rfl (ov_assign rfl rfl) ?_
            refine rl_nil ?_
            refine run_seq ?_
            refine run_seq ?_
            refine run_region_join 54 (.bool (decide (X k j < 0 ∨ D k j < X k j))) [0, 5, 6, 8, 9, 23, 24, 25, 35, 36, 37] (fun hk13 => ?_) ?_
            · refine rl_v rfl rfl rfl (ov_move rfl rfl) ?_
              refine rl_v rfl rfl rfl (ov_lss rfl rfl rfl) ?_
              refine rl_v rfl rfl rfl (ov_move rfl rfl) ?_
              first | refine rl_split_dec 44 rfl (fun hg14 => ?_) (fun hg14 => ?_) | refine rl_split 44 rfl (fun hg14 => ?_) (fun hg14 => ?_)
              · refine rl_gskip rfl rfl rfl rfl rfl rfl ?_
                refine rl_gskip rfl rfl rfl rfl rfl rfl ?_
                refine rl_gskip rfl rfl rfl rfl rfl rfl ?_
                refine rl_gskip rfl rfl rfl rfl rfl rfl ?_
                refine rl_gskip rfl rfl rfl rfl rfl rfl ?_
                refine rl_gskip rfl rfl rfl rfl rfl rfl ?_
                refine rl_gskip rfl rfl rfl rfl rfl rfl ?_
                refine rl_gskip rfl rfl rfl rfl rfl rfl ?_
                refine rl_gskip rfl rfl rfl rfl rfl rfl ?_
                refine rl_v rfl rfl rfl (ov_pick_t rfl rfl rfl) ?_
                refine rl_nil (hk13 _ (jbt rfl (by first | omega | grind)) (And.intro rfl (And.intro rfl (And.intro rfl (And.intro rfl (And.intro rfl (And.intro rfl (And.intro rfl (And.intro rfl (And.intro rfl (And.intro rfl (And.intro rfl trivial))))))))))))
              · refine rl_gv rfl rfl rfl rfl rfl (ov_move rfl rfl) ?_
                refine rl_gv rfl rfl rfl rfl rfl (ov_move rfl rfl) ?_
                refine rl_gv rfl rfl rfl rfl rfl (ov_move rfl rfl) ?_
                refine rl_gv rfl rfl rfl rfl rfl (ov_index1 rfl Try.underlying22 (by kernel_rfl) rfl rfl ⟨by omega, by omega⟩ (by first | rfl | exact hga (by omega) | exact hra _ (by omega) (by omega) (by omega) | exact hga2 (by omega) | exact hra2 _ (by omega) (by omega) (by omega))) ?_
                refine rl_gv rfl rfl rfl rfl rfl (ov_load rfl Try.underlying23 rfl rfl (by first | exact hrow _ hO2.below _ (by omega) (by omega) | exact hel _ hO2.below _ (by omega) (by omega) _ (by omega) (by omega) | exact hrow2 _ hO2.below _ (by omega) (by omega) | exact hel2 _ hO2.below _ (by omega) (by omega) _ (by omega) (by omega) | exact hO2.cellI 0 rfl _ (by omega) (by omega) | exact hO2.cellL 0 rfl rfl | exact hO2.cellI 1 rfl _ (by omega) (by omega) | exact hO2.cellL 1 rfl rfl | exact hO2.cellI 2 rfl _ (by omega) (by omega) | exact hO2.cellL 2 rfl rfl | exact hO2.cellI 3 rfl _ (by omega) (by omega) | exact hO2.cellL 3 rfl rfl | exact hO2.cellI 4 rfl _ (by omega) (by omega) | exact hO2.cellL 4 rfl rfl | exact hO2.cellI 5 rfl _ (by omega) (by omega) | exact hO2.cellL 5 rfl rfl)) ?_
                refine rl_gv rfl rfl rfl rfl rfl (ov_move rfl rfl) ?_
                refine rl_gv rfl rfl rfl rfl rfl (ov_index1 rfl Try.underlying23 (by kernel_rfl) rfl rfl ⟨by omega, by omega⟩ (by first | rfl | exact hga (by omega) | exact hra _ (by omega) (by omega) (by omega) | exact hga2 (by omega) | exact hra2 _ (by omega) (by omega) (by omega))) ?_
                refine rl_gv rfl rfl rfl rfl rfl (ov_load rfl Try.underlying2 rfl rfl (by first | exact hrow _ hO2.below _ (by omega) (by omega) | exact hel _ hO2.below _ (by omega) (by omega) _ (by omega) (by omega) | exact hrow2 _ hO2.below _ (by omega) (by omega) | exact hel2 _ hO2.below _ (by omega) (by omega) _ (by omega) (by omega) | exact hO2.cellI 0 rfl _ (by omega) (by omega) | exact hO2.cellL 0 rfl rfl | exact hO2.cellI 1 rfl _ (by omega) (by omega) | exact hO2.cellL 1 rfl rfl | exact hO2.cellI 2 rfl _ (by omega) (by omega) | exact hO2.cellL 2 rfl rfl | exact hO2.cellI 3 rfl _ (by omega) (by omega) | exact hO2.cellL 3 rfl rfl | exact hO2.cellI 4 rfl _ (by omega) (by omega) | exact hO2.cellL 4 rfl rfl | exact hO2.cellI 5 rfl _ (by omega) (by omega) | exact hO2.cellL 5 rfl rfl)) ?_
                refine rl_gv rfl rfl rfl rfl rfl (ov_gtr rfl rfl rfl) ?_
                refine rl_v rfl rfl rfl (ov_pick_f rfl rfl rfl) ?_
                refine rl_nil (hk13 _ (jbd rfl (by first | omega | grind)) (And.intro rfl (And.intro rfl (And.intro rfl (And.intro rfl (And.intro rfl (And.intro rfl (And.intro rfl (And.intro rfl (And.intro rfl (And.intro rfl (And.intro rfl trivial))))))))))))
            · show Run _ _ _ _ [(54, _), (0, _), (5, _), (6, _), (8, _), (9, _), (23, _), (24, _), (25, _), (35, _), (36, _), (37, _)] _ _
              first | refine run_cond_dec rfl (fun h7 => ?_) (fun h7 => ?_) | refine run_cond rfl (fun h7 => ?_) (fun h7 => ?_)
              · refine run_seq ?_
                refine run_region ?_
                refine rl_v rfl rfl rfl (ov_assign rfl rfl) ?_
                refine rl_nil ?_
                refine run_ret Try.func40 (res1 Try.results40 rfl) ?_
                exact ⟨⟨false, rfl, ⟨fun h => Bool.noConfusion h, fun hc => by have := hc.2.2.1 k j hk0 h4 hj0 (by omega); omega⟩⟩, hO2.below⟩
              · have hx0 : 0 ≤ X k j := by omega
                have hx1 : X k j ≤ D k j := by omega
                have hd := hv.hi k j
                have hR1 : ∀ i' j : Int, 0 ≤ i' → i' < k → 0 ≤ j → j < n → 0 ≤ X i' j ∧ X i' j ≤ 1000000 := fun i' j' a b c d => by have := hX i' j' a b c d; have := hv.hi i' j'; omega
                have hR2 : ∀ j' : Int, 0 ≤ j' → j' < j → 0 ≤ X k j' ∧ X k j' ≤ 1000000 := fun j' a b => by have := hY j' a b; have := hv.hi k j'; omega
                have hr1 := gs_rng' hle hR1 hR2 hk0 h4 hj0 hj1 hj0 (show j < n by omega)
                have hr2 := gs_rng' hle hR1 hR2 hk0 h4 hj0 hj1 hk0 h4
                have e1 := hg2 j hj0 (by omega)
                have e2 := hg2 k hk0 h4
                have hu : -200000000 ≤ upd g2 k (g2 k + X k j) j ∧ upd g2 k (g2 k + X k j) j ≤ 200000000 := by unfold upd; split <;> omega
                refine run_skip ?_
                refine run_seq ?_
                refine run_region ?_
                refine rl_v rfl rfl rfl (ov_move rfl rfl) ?_
                refine rl_v rfl rfl rfl (ov_move rfl rfl) ?_
                refine rl_v rfl rfl rfl (ov_index1 rfl Try.underlying23 (by kernel_rfl) rfl rfl ⟨by omega, by omega⟩ (by first | rfl | exact hga (by omega) | exact hra _ (by omega) (by omega) (by omega) | exact hga2 (by omega) | exact hra2 _ (by omega) (by omega) (by omega))) ?_
                refine rl_v rfl rfl rfl (ov_load rfl Try.underlying2 rfl rfl (by first | exact hrow _ hO2.below _ (by omega) (by omega) | exact hel _ hO2.below _ (by omega) (by omega) _ (by omega) (by omega) | exact hrow2 _ hO2.below _ (by omega) (by omega) | exact hel2 _ hO2.below _ (by omega) (by omega) _ (by omega) (by omega) | exact hO2.cellI 0 rfl _ (by omega) (by omega) | exact hO2.cellL 0 rfl rfl | exact hO2.cellI 1 rfl _ (by omega) (by omega) | exact hO2.cellL 1 rfl rfl | exact hO2.cellI 2 rfl _ (by omega) (by omega) | exact hO2.cellL 2 rfl rfl | exact hO2.cellI 3 rfl _ (by omega) (by omega) | exact hO2.cellL 3 rfl rfl | exact hO2.cellI 4 rfl _ (by omega) (by omega) | exact hO2.cellL 4 rfl rfl | exact hO2.cellI 5 rfl _ (by omega) (by omega) | exact hO2.cellL 5 rfl rfl)) ?_
                refine rl_v rfl rfl rfl (ov_move rfl rfl) ?_
                refine rl_v rfl rfl rfl (ov_add rfl rfl rfl (by omega)) ?_
                refine rl_v rfl rfl rfl (ov_index1 rfl Try.underlying23 (by kernel_rfl) rfl rfl ⟨by omega, by omega⟩ (by first | rfl | exact hga (by omega) | exact hra _ (by omega) (by omega) (by omega) | exact hga2 (by omega) | exact hra2 _ (by omega) (by omega) (by omega))) ?_
                refine rl_ow rfl (ow_storeI rfl rfl (by kernel_rfl) hO2 0 rfl rfl ⟨by omega, by omega⟩ rfl) ?_
                rintro _ w15 ⟨rfl, hO16, hs17⟩
                refine rl_nil ?_
                refine run_region ?_
                refine rl_v rfl rfl rfl (ov_move rfl rfl) ?_
                refine rl_v rfl rfl rfl (ov_move rfl rfl) ?_
                refine rl_v rfl rfl rfl (ov_index1 rfl Try.underlying23 (by kernel_rfl) rfl rfl ⟨by omega, by omega⟩ (by first | rfl | exact hga (by omega) | exact hra _ (by omega) (by omega) (by omega) | exact hga2 (by omega) | exact hra2 _ (by omega) (by omega) (by omega))) ?_
                refine rl_v rfl rfl rfl (ov_load rfl Try.underlying2 rfl rfl (by first | exact hrow _ hO16.below _ (by omega) (by omega) | exact hel _ hO16.below _ (by omega) (by omega) _ (by omega) (by omega) | exact hrow2 _ hO16.below _ (by omega) (by omega) | exact hel2 _ hO16.below _ (by omega) (by omega) _ (by omega) (by omega) | exact hO16.cellI 0 rfl _ (by omega) (by omega) | exact hO16.cellL 0 rfl rfl | exact hO16.cellI 1 rfl _ (by omega) (by omega) | exact hO16.cellL 1 rfl rfl | exact hO16.cellI 2 rfl _ (by omega) (by omega) | exact hO16.cellL 2 rfl rfl | exact hO16.cellI 3 rfl _ (by omega) (by omega) | exact hO16.cellL 3 rfl rfl | exact hO16.cellI 4 rfl _ (by omega) (by omega) | exact hO16.cellL 4 rfl rfl | exact hO16.cellI 5 rfl _ (by omega) (by omega) | exact hO16.cellL 5 rfl rfl)) ?_
                refine rl_v rfl rfl rfl (ov_move rfl rfl) ?_
                refine rl_v rfl rfl rfl (ov_sub rfl rfl rfl (by omega)) ?_
                refine rl_v rfl rfl rfl (ov_index1 rfl Try.underlying23 (by kernel_rfl) rfl rfl ⟨by omega, by omega⟩ (by first | rfl | exact hga (by omega) | exact hra _ (by omega) (by omega) (by omega) | exact hga2 (by omega) | exact hra2 _ (by omega) (by omega) (by omega))) ?_
                refine rl_ow rfl (ow_storeI rfl rfl (by kernel_rfl) hO16 0 rfl rfl ⟨by omega, by omega⟩ rfl) ?_
                rintro _ w18 ⟨rfl, hO19, hs20⟩
                refine rl_nil ?_
                refine run_inBlock ?_
                refine run_region ?_
                refine rl_v rfl rfl rfl (ov_add rfl rfl rfl (by omega)) ?_
                refine rl_v rfl rfl rfl (ov_move rfl rfl) ?_
                refine rl_nil ?_
                refine Run.use (ih12 (j + 1) (upd (upd g2 k (g2 k + X k j)) j (upd g2 k (g2 k + X k j) j - X k j)) _ ?_ ?_) (And.intro (by first | with_reducible rfl | exact slot_int rfl (by first | omega) | rfl) (And.intro rfl (And.intro rfl (And.intro rfl (And.intro rfl (And.intro rfl (And.intro rfl (And.intro rfl (And.intro rfl trivial)))))))))
                · first | omega | (dsimp only; omega)
                · exact ⟨by omega, by omega, fun i i0 i1 => (by omega : i = j ∨ i < j).elim (fun e => by rw [e]; exact ⟨hx0, hx1⟩) (fun e => hY i i0 e), fun v v0 v1 => by rw [gs_step n X k j v hj0]; have e3 := hg2 v v0 v1; unfold upd; by_cases q : v = j; (subst q; rw [if_pos rfl, if_pos rfl]; split; (rename_i e; subst e; omega); (rename_i e; first | omega | (rw [if_neg e]; omega))); (rw [if_neg q, if_neg q]; split; (rename_i e; subst e; omega); omega), hO19⟩
          · have hjn : j = n := by omega
            subst hjn
            refine run_exit rfl ?_
            refine run_inBlock ?_
            refine run_region ?_
            refine rl_v rfl rfl rfl (ov_add rfl rfl rfl (by omega)) ?_
            refine rl_v rfl rfl rfl (ov_move rfl rfl) ?_
            refine rl_nil ?_
            refine Run.use (ih10 (k + 1) (g2) _ ?_ ?_) (And.intro (by first | with_reducible rfl | exact slot_int rfl (by first | omega) | rfl) (And.intro rfl (And.intro rfl (And.intro rfl (And.intro rfl trivial)))))
            · first | omega | (dsimp only; omega)
            · exact ⟨by omega, by omega, fun r r0 r1 => (by omega : r = k ∨ r < k).elim (fun e => by rw [e]; exact hLk) (fun e => hL r r0 e), fun i i2 i0 i1 j0 j1 => (by omega : i = k ∨ i < k).elim (fun e => by rw [e]; exact hY i2 j0 (by omega)) (fun e => hX i i2 i0 e j0 j1), fun v v0 v1 => by rw [hg2 v v0 v1, gs_row n X k v hk0 v0 v1], hO2⟩
      · have hkn : k = n := by omega
        subst hkn
        have hps : ∀ v : Int, 0 ≤ v → v < n → g v = - ps n X v := fun v v0 v1 => by rw [hg v v0 v1, gs_end n X v v0 v1]
        refine run_exit rfl ?_
        refine run_seq ?_
        refine run_region ?_
        refine rl_v rfl rfl rfl (ov_move rfl rfl) ?_
        refine rl_call callable_62 rfl rfl rfl rfl rfl rfl (containsFunc_any _ n n g _ #[] _ _ callable_75 nonzeroTells (hO.readsI 0 rfl) (by omega)) (fun e21 w22 hp23 => ?_)
        obtain ⟨bb, rfl, hbb, hb9⟩ := hp23
        refine ⟨_, rfl, ?_⟩
        have hO24 := hO.past hb9
        have hfin : (!bb) = true ↔ Cnl n D n L X := by
          constructor
          · intro hb
            refine ⟨rfl, fun r r0 r1 => hL r r0 (by omega), fun i j i0 i1 j0 j1 => hX i j i0 (by omega) j0 j1, fun v v0 v1 => ?_⟩
            refine Classical.byContradiction fun hx => ?_
            have : bb = true := hbb.2 ⟨v, v0, v1, decide_eq_true (by rw [hps v v0 v1]; omega)⟩
            rw [this] at hb
            cases hb
          · intro hc
            cases hbv : bb with
            | false => rfl
            | true =>
              obtain ⟨v, v0, v1, e⟩ := hbb.1 hbv
              have e := of_decide_eq_true e
              exact absurd (by rw [hps v v0 v1, hc.2.2.2 v v0 v1]; rfl) e
        refine rl_v rfl rfl rfl (ov_not rfl rfl) ?_
        refine rl_v rfl rfl rfl (ov_assign rfl rfl) ?_
        refine rl_nil ?_
        refine run_ret Try.func40 (res1 Try.results40 rfl) ?_
        exact ⟨⟨_, rfl, hfin⟩, hO24.below⟩

theorem amount_any (ao : Option Addr) (n c : Nat) (X : Int → Int → Int) (w : World) (hn : n ≤ 32) (hX : ∀ i j : Int, 0 ≤ i → i < n → 0 ≤ j → j < n → 0 ≤ X i j ∧ X i j ≤ 1000000)
    (h : ITab w.heap.size w ao n (fun _ => n) (fun r c => .int .i64 (X r c))) :
    Calls Try.prog 51 #[.slice ao n c] w fun e w' => e = .returned (.int .i64 (total n X)) ∧ Below w.heap.size w w' := by
  obtain ⟨A, C, RB, RO, gb, go, hga, hrow, hra, hel, _⟩ := h.open
  refine calls_of_run (F := [(0, _)]) Try.func51 rfl Try.ntmps51 rfl rfl ?_
  have hO0 := Own.init w
  refine run_seq ?_
  refine run_region ?_
  refine rl_v rfl rfl rfl (ov_assign rfl rfl) ?_
  refine rl_nil ?_
  refine run_seq ?_
  refine run_region ?_
  refine rl_v rfl rfl rfl (ov_assign rfl rfl) ?_
  refine rl_nil ?_
  refine run_seq ?_
  refine run_seq ?_
  refine run_region ?_
  refine rl_v rfl rfl rfl (ov_assign rfl rfl) ?_
  refine rl_nil ?_
  refine run_block ?_
  refine Run.keep [0, 3, 4] (F' := [(0, _), (3, _), (4, _)]) rfl ?_
  refine run_loop1 (fun (k : Int) => [(4, .int .i64 k), (3, .int .i64 (sm (fun i => sm (X i) n) k))]) [0] (fun (k : Int) (w1 : World) => 0 ≤ k ∧ k ≤ n ∧ Own w.heap.size w w1 []) (fun (k : Int) => ((n : Int) - k).toNat) (0) ?_ (And.intro (by first | with_reducible rfl | exact slot_int rfl (by first | omega) | rfl) (And.intro (by first | with_reducible rfl | exact slot_int rfl (by first | omega | (first | (rw [sm_zero, Int.add_zero]) | (rw [sm_succ _ hj0]; omega) | (rw [sm_succ _ hk0, show j = (n : Int) by omega]))) | rfl) (And.intro rfl trivial))) ?_
  · exact ⟨by omega, by omega, hO0⟩
  intro k w1 hIw1 ih2
  obtain ⟨hk0, hk1, hO⟩ := hIw1
  show Run _ _ _ _ [(4, _), (3, _), (0, _)] _ _
  refine run_seq ?_
  refine run_seq ?_
  refine run_region ?_
  refine rl_v rfl rfl rfl (ov_move rfl rfl) ?_
  refine rl_v rfl rfl rfl (ov_move rfl rfl) ?_
  refine rl_v rfl rfl rfl (ov_len rfl Try.underlying22 rfl) ?_
  refine rl_v rfl rfl rfl (ov_lss rfl rfl rfl) ?_
  refine rl_nil ?_
  first | refine run_cond_dec rfl (fun h1 => ?_) (fun h1 => ?_) | refine run_cond rfl (fun h1 => ?_) (fun h1 => ?_)
  · have hr : ∀ i : Int, 0 ≤ i → i < n → 0 ≤ sm (X i) n ∧ sm (X i) n ≤ n * 1000000 := fun i i0 i1 => ⟨sm_nonneg fun j j0 j1 => (hX i j i0 i1 j0 j1).1, sm_bound _ (by omega) fun j j0 j1 => (hX i j i0 i1 j0 j1).2⟩
    have s1 : 0 ≤ sm (fun i => sm (X i) n) k := sm_nonneg fun i i0 i1 => (hr i i0 (by omega)).1
    have s2 : sm (fun i => sm (X i) n) k ≤ k * 32000000 := sm_bound _ hk0 fun i i0 i1 => by have := (hr i i0 (by omega)).2; omega
    refine run_skip ?_
    refine run_seq ?_
    refine run_block ?_
    refine run_seq ?_
    refine run_region ?_
    refine rl_v rfl rfl rfl (ov_assign rfl rfl) ?_
    refine rl_nil ?_
    refine run_block ?_
    refine Run.keep [0, 3, 4, 5] (F' := [(0, _), (3, _), (4, _), (5, _)]) rfl ?_
    refine run_loop1 (fun (j : Int) => [(5, .int .i64 j), (3, .int .i64 (sm (fun i => sm (X i) n) k + sm (X k) j))]) [0, 4] (fun (j : Int) (w3 : World) => 0 ≤ j ∧ j ≤ n ∧ Own w.heap.size w w3 []) (fun (j : Int) => ((n : Int) - j).toNat) (0) ?_ (And.intro (by first | with_reducible rfl | exact slot_int rfl (by first | omega) | rfl) (And.intro (by first | with_reducible rfl | exact slot_int rfl (by first | omega | (first | (rw [sm_zero, Int.add_zero]) | (rw [sm_succ _ hj0]; omega) | (rw [sm_succ _ hk0, show j = (n : Int) by omega]))) | rfl) (And.intro rfl (And.intro rfl trivial)))) ?_
    · exact ⟨by omega, by omega, hO⟩
    intro j w3 hIw3 ih4
    obtain ⟨hj0, hj1, hO2⟩ := hIw3
    show Run _ _ _ _ [(5, _), (3, _), (0, _), (4, _)] _ _
    refine run_seq ?_
    refine run_seq ?_
    refine run_region ?_
    refine rl_v rfl rfl rfl (ov_move rfl rfl) ?_
    refine rl_v rfl rfl rfl (ov_move rfl rfl) ?_
    refine rl_v rfl rfl rfl (ov_move rfl rfl) ?_
    refine rl_v rfl rfl rfl (ov_index1 rfl Try.underlying22 (by kernel_rfl) rfl rfl ⟨by omega, by omega⟩ (by first | rfl | exact hga (by omega) | exact hra _ (by omega) (by omega) (by omega))) ?_
    refine rl_v rfl rfl rfl (ov_load rfl Try.underlying23 rfl rfl (by first | exact hrow _ hO2.below _ (by omega) (by omega) | exact hel _ hO2.below _ (by omega) (by omega) _ (by omega) (by omega) | exact hO2.cellI 0 rfl _ (by omega) (by omega) | exact hO2.cellL 0 rfl rfl | exact hO2.cellI 1 rfl _ (by omega) (by omega) | exact hO2.cellL 1 rfl rfl | exact hO2.cellI 2 rfl _ (by omega) (by omega) | exact hO2.cellL 2 rfl rfl | exact hO2.cellI 3 rfl _ (by omega) (by omega) | exact hO2.cellL 3 rfl rfl | exact hO2.cellI 4 rfl _ (by omega) (by omega) | exact hO2.cellL 4 rfl rfl | exact hO2.cellI 5 rfl _ (by omega) (by omega) | exact hO2.cellL 5 rfl rfl)) ?_
    refine rl_v rfl rfl rfl (ov_len rfl Try.underlying23 rfl) ?_
    refine rl_v rfl rfl rfl (ov_lss rfl rfl rfl) ?_
    refine rl_nil ?_
    first | refine run_cond_dec rfl (fun h2 => ?_) (fun h2 => ?_) | refine run_cond rfl (fun h2 => ?_) (fun h2 => ?_)
    · have hx := hX k j hk0 h1 hj0 h2
      have s3 : 0 ≤ sm (X k) j := sm_nonneg fun i i0 i1 => (hX k i hk0 h1 i0 (by omega)).1
      have s4 : sm (X k) j ≤ j * 1000000 := sm_bound _ hj0 fun i i0 i1 => (hX k i hk0 h1 i0 (by omega)).2
      refine run_skip ?_
      refine run_seq ?_
      refine run_block ?_
      refine run_region ?_
      refine rl_v rfl rfl rfl (ov_move rfl rfl) ?_
      refine rl_v rfl rfl rfl (ov_move rfl rfl) ?_
      refine rl_v rfl rfl rfl (ov_move rfl rfl) ?_
      refine rl_v rfl rfl rfl (ov_index1 rfl Try.underlying22 (by kernel_rfl) rfl rfl ⟨by omega, by omega⟩ (by first | rfl | exact hga (by omega) | exact hra _ (by omega) (by omega) (by omega))) ?_
      refine rl_v rfl rfl rfl (ov_load rfl Try.underlying23 rfl rfl (by first | exact hrow _ hO2.below _ (by omega) (by omega) | exact hel _ hO2.below _ (by omega) (by omega) _ (by omega) (by omega) | exact hO2.cellI 0 rfl _ (by omega) (by omega) | exact hO2.cellL 0 rfl rfl | exact hO2.cellI 1 rfl _ (by omega) (by omega) | exact hO2.cellL 1 rfl rfl | exact hO2.cellI 2 rfl _ (by omega) (by omega) | exact hO2.cellL 2 rfl rfl | exact hO2.cellI 3 rfl _ (by omega) (by omega) | exact hO2.cellL 3 rfl rfl | exact hO2.cellI 4 rfl _ (by omega) (by omega) | exact hO2.cellL 4 rfl rfl | exact hO2.cellI 5 rfl _ (by omega) (by omega) | exact hO2.cellL 5 rfl rfl)) ?_
      refine rl_v rfl rfl rfl (ov_move rfl rfl) ?_
      refine rl_v rfl rfl rfl (ov_index1 rfl Try.underlying23 (by kernel_rfl) rfl rfl ⟨by omega, by omega⟩ (by first | rfl | exact hga (by omega) | exact hra _ (by omega) (by omega) (by omega))) ?_
      refine rl_v rfl rfl rfl (ov_load rfl Try.underlying2 rfl rfl (by first | exact hrow _ hO2.below _ (by omega) (by omega) | exact hel _ hO2.below _ (by omega) (by omega) _ (by omega) (by omega) | exact hO2.cellI 0 rfl _ (by omega) (by omega) | exact hO2.cellL 0 rfl rfl | exact hO2.cellI 1 rfl _ (by omega) (by omega) | exact hO2.cellL 1 rfl rfl | exact hO2.cellI 2 rfl _ (by omega) (by omega) | exact hO2.cellL 2 rfl rfl | exact hO2.cellI 3 rfl _ (by omega) (by omega) | exact hO2.cellL 3 rfl rfl | exact hO2.cellI 4 rfl _ (by omega) (by omega) | exact hO2.cellL 4 rfl rfl | exact hO2.cellI 5 rfl _ (by omega) (by omega) | exact hO2.cellL 5 rfl rfl)) ?_
      refine rl_v rfl rfl rfl (ov_add rfl rfl rfl (by omega)) ?_
      refine rl_v rfl rfl rfl (ov_assign rfl rfl) ?_
      refine rl_nil ?_
      refine run_inBlock ?_
      refine run_region ?_
      refine rl_v rfl rfl rfl (ov_move rfl rfl) ?_
      refine rl_v rfl rfl rfl (ov_add rfl rfl rfl (by omega)) ?_
      refine rl_v rfl rfl rfl (ov_assign rfl rfl) ?_
      refine rl_nil ?_
      refine Run.use (ih4 _ _ ?_ ?_) (And.intro (by first | with_reducible rfl | exact slot_int rfl (by first | omega) | rfl) (And.intro (by first | with_reducible rfl | exact slot_int rfl (by first | omega | (first | (rw [sm_zero, Int.add_zero]) | (rw [sm_succ _ hj0]; omega) | (rw [sm_succ _ hk0, show j = (n : Int) by omega]))) | rfl) (And.intro rfl (And.intro rfl trivial))))
      · first | omega | (dsimp only; omega)
      · exact ⟨by omega, by omega, hO2⟩
    · refine run_exit rfl ?_
      refine run_inBlock ?_
      refine run_region ?_
      refine rl_v rfl rfl rfl (ov_move rfl rfl) ?_
      refine rl_v rfl rfl rfl (ov_add rfl rfl rfl (by omega)) ?_
      refine rl_v rfl rfl rfl (ov_assign rfl rfl) ?_
      refine rl_nil ?_
      refine Run.use (ih2 _ _ ?_ ?_) (And.intro (by first | with_reducible rfl | exact slot_int rfl (by first | omega) | rfl) (And.intro (by first | with_reducible rfl | exact slot_int rfl (by first | omega | (first | (rw [sm_zero, Int.add_zero]) | (rw [sm_succ _ hj0]; omega) | (rw [sm_succ _ hk0, show j = (n : Int) by omega]))) | rfl) (And.intro rfl trivial)))
      · first | omega | (dsimp only; omega)
      · exact ⟨by omega, by omega, hO2⟩
  · refine run_exit rfl ?_
    refine run_seq ?_
    refine run_region ?_
    refine rl_v rfl rfl rfl (ov_move rfl rfl) ?_
    refine rl_v rfl rfl rfl (ov_assign rfl rfl) ?_
    refine rl_nil ?_
    refine run_ret Try.func51 (res1 Try.results51 rfl) ?_
    exact ⟨by rw [show k = (n : Int) by omega]; rfl, hO.below⟩

theorem less_any (ao bo : Option Addr) (n c cm : Nat) (D X : Int → Int → Int) (w : World) (hn : n ≤ 32) (hX : ∀ i j : Int, 0 ≤ i → i < n → 0 ≤ j → j < n → 0 ≤ X i j ∧ X i j ≤ D i j ∧ D i j ≤ 1000000)
    (h : ITab w.heap.size w ao n (fun _ => n) (fun r c => .int .i64 (D r c))) (h2 : ITab w.heap.size w bo n (fun _ => n) (fun r c => .int .i64 (X r c))) :
    Calls Try.prog 52 #[.slice ao n c, .slice bo n cm] w fun e w' => ∃ v H, e = .returned v ∧ OTab v 23 2 n (fun _ => n) (fun r c => .int .i64 (D r c - X r c)) H ∧ Own w.heap.size w w' H := by
  obtain ⟨A, C, RB, RO, gb, go, hga, hrow, hra, hel, _⟩ := h.open
  obtain ⟨A2, C2, RB2, RO2, gb2, go2, hga2, hrow2, hra2, hel2, _⟩ := h2.open
  refine calls_of_run (F := [(0, _), (1, _)]) Try.func52 rfl Try.ntmps52 rfl rfl ?_
  have hO0 := Own.init w
  have hO5 := hO0.nil_cons
  refine run_seq ?_
  refine run_region ?_
  refine rl_v rfl rfl rfl (ov_assign rfl rfl) ?_
  refine rl_nil ?_
  refine run_seq ?_
  refine run_region ?_
  refine rl_v rfl rfl rfl (ov_assign rfl rfl) ?_
  refine rl_nil ?_
  refine run_seq ?_
  refine run_seq ?_
  refine run_region ?_
  refine rl_v rfl rfl rfl (ov_assign rfl rfl) ?_
  refine rl_nil ?_
  refine run_block ?_
  refine Run.keep [0, 1, 5, 6] (F' := [(0, _), (1, _), (5, _), (6, _)]) rfl ?_
  refine run_loop4 (fun (k : Int) (m : Nat) (v : Value) (H : List (Option Blk)) => [(6, .int .i64 k), (5, v)]) [0, 1] (fun (k : Int) (m : Nat) (v : Value) (H : List (Option Blk)) (w1 : World) => k = m ∧ m ≤ n ∧ OTab v 23 2 m (fun _ => n) (fun r c => .int .i64 (D r c - X r c)) H ∧ Own w.heap.size w w1 H) (fun (k : Int) (m : Nat) (v : Value) (H : List (Option Blk)) => n - m) (0) (0) (.slice none 0 0) ([none]) ?_ (And.intro (by first | with_reducible rfl | exact slot_int rfl (by first | omega) | rfl) (And.intro rfl (And.intro rfl (And.intro rfl trivial)))) ?_
  · exact ⟨rfl, by omega, OTab.nil _ _ _ _, hO5⟩
  intro k m v H w1 hIw1 ih2
  obtain ⟨hk, hm1, hT, hO⟩ := hIw1
  show Run _ _ _ _ [(6, _), (5, _), (0, _), (1, _)] _ _
  refine run_seq ?_
  refine run_seq ?_
  refine run_region ?_
  refine rl_v rfl rfl rfl (ov_move rfl rfl) ?_
  refine rl_v rfl rfl rfl (ov_move rfl rfl) ?_
  refine rl_v rfl rfl rfl (ov_len rfl Try.underlying22 rfl) ?_
  refine rl_v rfl rfl rfl (ov_lss rfl rfl rfl) ?_
  refine rl_nil ?_
  first | refine run_cond_dec rfl (fun h1 => ?_) (fun h1 => ?_) | refine run_cond rfl (fun h1 => ?_) (fun h1 => ?_)
  · refine run_skip ?_
    refine run_seq ?_
    refine run_block ?_
    refine run_seq ?_
    refine run_region ?_
    refine rl_v rfl rfl rfl (ov_assign rfl rfl) ?_
    refine rl_nil ?_
    refine run_seq ?_
    refine run_seq ?_
    refine run_region ?_
    refine rl_v rfl rfl rfl (ov_assign rfl rfl) ?_
    refine rl_nil ?_
    refine run_block ?_
    refine Run.keep [0, 1, 5, 6, 7, 8] (F' := [(0, _), (1, _), (5, _), (6, _), (7, _), (8, _)]) rfl ?_
    refine run_loop4 (fun (j : Int) (m2 : Nat) (x : Value) (cr : Option Blk) => [(8, .int .i64 j), (7, x)]) [0, 1, 5, 6] (fun (j : Int) (m2 : Nat) (x : Value) (cr : Option Blk) (w3 : World) => j = m2 ∧ m2 ≤ n ∧ IRow x 2 m2 (fun i => .int .i64 (D k i - X k i)) cr ∧ Own w.heap.size w w3 (cr :: H)) (fun (j : Int) (m2 : Nat) (x : Value) (cr : Option Blk) => n - m2) (0) (0) (.slice none 0 0) (none) ?_ (And.intro (by first | with_reducible rfl | exact slot_int rfl (by first | omega) | rfl) (And.intro rfl (And.intro rfl (And.intro rfl (And.intro rfl (And.intro rfl trivial)))))) ?_
    · exact ⟨rfl, by omega, IRow.nil _ _, hO.nil_cons⟩
    intro j m2 x cr w3 hIw3 ih4
    obtain ⟨hj, hm2, hr, hO2⟩ := hIw3
    show Run _ _ _ _ [(8, _), (7, _), (0, _), (1, _), (5, _), (6, _)] _ _
    refine run_seq ?_
    refine run_seq ?_
    refine run_region ?_
    refine rl_v rfl rfl rfl (ov_move rfl rfl) ?_
    refine rl_v rfl rfl rfl (ov_move rfl rfl) ?_
    refine rl_v rfl rfl rfl (ov_len rfl Try.underlying22 rfl) ?_
    refine rl_v rfl rfl rfl (ov_lss rfl rfl rfl) ?_
    refine rl_nil ?_
    first | refine run_cond_dec rfl (fun h2 => ?_) (fun h2 => ?_) | refine run_cond rfl (fun h2 => ?_) (fun h2 => ?_)
    · have hx := hX k j (by omega) h1 (by omega) h2
      refine run_skip ?_
      refine run_seq ?_
      refine run_block ?_
      refine run_held (fun w' => Own w.heap.size w w' (H)) mixed ?_
      have hO6 := hO2.drew
      generalize World.drew w3 = w5 at hO6 ⊢
      have hS7 : Own w.heap.size w w5 (H) := by first | exact hO6.tail | exact hO6.tail.tail
      refine rh_v 0 rfl (by kernel_rfl) rfl rfl rfl hS7 (fun _ hS => ov_move rfl rfl) ?_
      refine rh_v 1 rfl (by kernel_rfl) rfl rfl rfl hS7 (fun _ hS => ov_move rfl rfl) ?_
      refine rh_v 2 rfl (by kernel_rfl) rfl rfl rfl hS7 (fun _ hS => ov_move rfl rfl) ?_
      refine rh_v 3 rfl (by kernel_rfl) rfl rfl rfl hS7 (fun _ hS => ov_index1 rfl Try.underlying22 (by kernel_rfl) rfl rfl ⟨by omega, by omega⟩ (by first | rfl | exact hga (by omega) | exact hra _ (by omega) (by omega) (by omega) | exact hga2 (by omega) | exact hra2 _ (by omega) (by omega) (by omega))) ?_
      refine rh_v 4 rfl (by kernel_rfl) rfl rfl rfl hS7 (fun _ hS => ov_load rfl Try.underlying23 rfl rfl (by first | exact hrow _ hS.below _ (by omega) (by omega) | exact hel _ hS.below _ (by omega) (by omega) _ (by omega) (by omega) | exact hrow2 _ hS.below _ (by omega) (by omega) | exact hel2 _ hS.below _ (by omega) (by omega) _ (by omega) (by omega) | exact hS.cellI 0 rfl _ (by omega) (by omega) | exact hS.cellL 0 rfl rfl | exact hS.cellI 1 rfl _ (by omega) (by omega) | exact hS.cellL 1 rfl rfl | exact hS.cellI 2 rfl _ (by omega) (by omega) | exact hS.cellL 2 rfl rfl | exact hS.cellI 3 rfl _ (by omega) (by omega) | exact hS.cellL 3 rfl rfl | exact hS.cellI 4 rfl _ (by omega) (by omega) | exact hS.cellL 4 rfl rfl | exact hS.cellI 5 rfl _ (by omega) (by omega) | exact hS.cellL 5 rfl rfl)) ?_
      refine rh_v 5 rfl (by kernel_rfl) rfl rfl rfl hS7 (fun _ hS => ov_move rfl rfl) ?_
      refine rh_v 6 rfl (by kernel_rfl) rfl rfl rfl hS7 (fun _ hS => ov_index1 rfl Try.underlying23 (by kernel_rfl) rfl rfl ⟨by omega, by omega⟩ (by first | rfl | exact hga (by omega) | exact hra _ (by omega) (by omega) (by omega) | exact hga2 (by omega) | exact hra2 _ (by omega) (by omega) (by omega))) ?_
      refine rh_v 7 rfl (by kernel_rfl) rfl rfl rfl hS7 (fun _ hS => ov_load rfl Try.underlying2 rfl rfl (by first | exact hrow _ hS.below _ (by omega) (by omega) | exact hel _ hS.below _ (by omega) (by omega) _ (by omega) (by omega) | exact hrow2 _ hS.below _ (by omega) (by omega) | exact hel2 _ hS.below _ (by omega) (by omega) _ (by omega) (by omega) | exact hS.cellI 0 rfl _ (by omega) (by omega) | exact hS.cellL 0 rfl rfl | exact hS.cellI 1 rfl _ (by omega) (by omega) | exact hS.cellL 1 rfl rfl | exact hS.cellI 2 rfl _ (by omega) (by omega) | exact hS.cellL 2 rfl rfl | exact hS.cellI 3 rfl _ (by omega) (by omega) | exact hS.cellL 3 rfl rfl | exact hS.cellI 4 rfl _ (by omega) (by omega) | exact hS.cellL 4 rfl rfl | exact hS.cellI 5 rfl _ (by omega) (by omega) | exact hS.cellL 5 rfl rfl)) ?_
      refine rh_v 8 rfl (by kernel_rfl) rfl rfl rfl hS7 (fun _ hS => ov_move rfl rfl) ?_
      refine rh_v 9 rfl (by kernel_rfl) rfl rfl rfl hS7 (fun _ hS => ov_move rfl rfl) ?_
      refine rh_v 10 rfl (by kernel_rfl) rfl rfl rfl hS7 (fun _ hS => ov_index1 rfl Try.underlying22 (by kernel_rfl) rfl rfl ⟨by omega, by omega⟩ (by first | rfl | exact hga (by omega) | exact hra _ (by omega) (by omega) (by omega) | exact hga2 (by omega) | exact hra2 _ (by omega) (by omega) (by omega))) ?_
      refine rh_v 11 rfl (by kernel_rfl) rfl rfl rfl hS7 (fun _ hS => ov_load rfl Try.underlying23 rfl rfl (by first | exact hrow _ hS.below _ (by omega) (by omega) | exact hel _ hS.below _ (by omega) (by omega) _ (by omega) (by omega) | exact hrow2 _ hS.below _ (by omega) (by omega) | exact hel2 _ hS.below _ (by omega) (by omega) _ (by omega) (by omega) | exact hS.cellI 0 rfl _ (by omega) (by omega) | exact hS.cellL 0 rfl rfl | exact hS.cellI 1 rfl _ (by omega) (by omega) | exact hS.cellL 1 rfl rfl | exact hS.cellI 2 rfl _ (by omega) (by omega) | exact hS.cellL 2 rfl rfl | exact hS.cellI 3 rfl _ (by omega) (by omega) | exact hS.cellL 3 rfl rfl | exact hS.cellI 4 rfl _ (by omega) (by omega) | exact hS.cellL 4 rfl rfl | exact hS.cellI 5 rfl _ (by omega) (by omega) | exact hS.cellL 5 rfl rfl)) ?_
      refine rh_v 12 rfl (by kernel_rfl) rfl rfl rfl hS7 (fun _ hS => ov_move rfl rfl) ?_
      refine rh_v 13 rfl (by kernel_rfl) rfl rfl rfl hS7 (fun _ hS => ov_index1 rfl Try.underlying23 (by kernel_rfl) rfl rfl ⟨by omega, by omega⟩ (by first | rfl | exact hga (by omega) | exact hra _ (by omega) (by omega) (by omega) | exact hga2 (by omega) | exact hra2 _ (by omega) (by omega) (by omega))) ?_
      refine rh_v 14 rfl (by kernel_rfl) rfl rfl rfl hS7 (fun _ hS => ov_load rfl Try.underlying2 rfl rfl (by first | exact hrow _ hS.below _ (by omega) (by omega) | exact hel _ hS.below _ (by omega) (by omega) _ (by omega) (by omega) | exact hrow2 _ hS.below _ (by omega) (by omega) | exact hel2 _ hS.below _ (by omega) (by omega) _ (by omega) (by omega) | exact hS.cellI 0 rfl _ (by omega) (by omega) | exact hS.cellL 0 rfl rfl | exact hS.cellI 1 rfl _ (by omega) (by omega) | exact hS.cellL 1 rfl rfl | exact hS.cellI 2 rfl _ (by omega) (by omega) | exact hS.cellL 2 rfl rfl | exact hS.cellI 3 rfl _ (by omega) (by omega) | exact hS.cellL 3 rfl rfl | exact hS.cellI 4 rfl _ (by omega) (by omega) | exact hS.cellL 4 rfl rfl | exact hS.cellI 5 rfl _ (by omega) (by omega) | exact hS.cellL 5 rfl rfl)) ?_
      refine rh_v 15 rfl (by kernel_rfl) rfl rfl rfl hS7 (fun _ hS => ov_sub rfl rfl rfl (by omega)) ?_
      refine rh_any1 16 (by kernel_rfl) ?_
      refine rc_op rfl rfl (ow_one rfl rfl rfl Try.underlying23 info_2 rfl hO6 rfl rfl) ?_
      rintro _ w8 ⟨b1, rfl, hO9, hs10⟩
      have hS11 : Own w.heap.size w w8 (H) := by first | exact hO9.tail | exact hO9.tail.tail
      refine ⟨hS11, ?_⟩
      refine rh_any1 17 (by kernel_rfl) ?_
      refine rc_op rfl rfl (ow_app1 rfl rfl rfl Try.underlying23 info_2 rfl hO9 0 hr rfl rfl rfl rfl ⟨by omega, by omega⟩) ?_
      rintro _ w12 ⟨v5, c5, rfl, hO13, hr5, hs14⟩
      have hS15 : Own w.heap.size w w12 (H) := by first | exact hO13.tail | exact hO13.tail.tail
      refine ⟨hS15, ?_⟩
      refine rh_v 18 rfl (by kernel_rfl) rfl rfl rfl hS15 (fun _ hS => ov_assign rfl rfl) ?_
      refine rh_done (by kernel_rfl) ?_
      refine run_inBlock ?_
      refine run_region ?_
      refine rl_v rfl rfl rfl (ov_move rfl rfl) ?_
      refine rl_v rfl rfl rfl (ov_add rfl rfl rfl (by omega)) ?_
      refine rl_v rfl rfl rfl (ov_assign rfl rfl) ?_
      refine rl_nil ?_
      refine Run.use (ih4 (j + 1) (m2 + 1) (v5) (c5) _ ?_ ?_) (And.intro (by first | with_reducible rfl | exact slot_int rfl (by first | omega) | rfl) (And.intro rfl (And.intro rfl (And.intro rfl (And.intro rfl (And.intro rfl trivial))))))
      · first | omega | (dsimp only; omega)
      · exact ⟨by omega, by omega, hr5.congr fun i i0 i1 => by unfold upd; split; (rename_i e; rw [e, ← hj]); rfl, hO13⟩
    · obtain rfl : m2 = n := by omega
      obtain ⟨ao5, cap5, rfl⟩ := hr.val
      obtain ⟨c0, rv, ch, rfl, hvt, h3t⟩ := hT
      refine run_exit rfl ?_
      refine run_region ?_
      refine rl_v rfl rfl rfl (ov_move rfl rfl) ?_
      refine rl_v rfl rfl rfl (ov_move rfl rfl) ?_
      refine rl_appV rfl rfl rfl rfl rfl rfl rfl rfl Try.underlying22 info_23 rfl hO2 1 hvt rfl rfl rfl rfl ⟨by omega, by omega⟩ (fun v6 c6 w16 hO17 hv6 hs18 => ?_)
      obtain ⟨H', hT', hO'⟩ := OTab.snoc (L := fun _ => m2) (F := fun r c => .int .i64 (D r c - X r c)) (H0 := []) h3t hr hv6 (by simpa using hO17) rfl (fun i _ _ => by rw [hk])
      refine rl_v rfl rfl rfl (ov_assign rfl rfl) ?_
      refine rl_nil ?_
      refine run_inBlock ?_
      refine run_region ?_
      refine rl_v rfl rfl rfl (ov_move rfl rfl) ?_
      refine rl_v rfl rfl rfl (ov_add rfl rfl rfl (by omega)) ?_
      refine rl_v rfl rfl rfl (ov_assign rfl rfl) ?_
      refine rl_nil ?_
      refine Run.use (ih2 (k + 1) (m + 1) (v6) (H') _ ?_ ?_) (And.intro (by first | with_reducible rfl | exact slot_int rfl (by first | omega) | rfl) (And.intro rfl (And.intro rfl (And.intro rfl trivial))))
      · first | omega | (dsimp only; omega)
      · exact ⟨by omega, by omega, hT', by simpa using hO'⟩
  · obtain rfl : m = n := by omega
    refine run_exit rfl ?_
    refine run_seq ?_
    refine run_region ?_
    refine rl_v rfl rfl rfl (ov_move rfl rfl) ?_
    refine rl_v rfl rfl rfl (ov_assign rfl rfl) ?_
    refine rl_nil ?_
    refine run_ret Try.func52 (res1 Try.results52 rfl) ?_
    exact ⟨v, H, rfl, hT, hO⟩
end Go.Proofs.Ytiambddcpflkhaa
