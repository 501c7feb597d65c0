/- Bound, Ranked, and the reference's Bound. -/
import Derived.Test.YtiambddcpflkhaaNetA
import Derived.Test.YtiambddcpflkhaaSum
namespace Go.Proofs.Ytiambddcpflkhaa
open Go.RowKit Go.Proofs

/-- A valid table: n parties, debts D. -/
structure Valid (n : Nat) (D : Int → Int → Int) : Prop where
  pos : 1 ≤ n
  le : n ≤ 32
  lo : ∀ r c, 0 ≤ D r c
  hi : ∀ r c, D r c ≤ 1000000
  dia : ∀ r, D r r = 0

theorem Valid.chk {n : Nat} {D : Int → Int → Int} (h : Valid n D) : chk n (fun _ => n) D = 0 :=
  chk_0 (by have := h.pos; omega) (by have := h.le; omega) (fun _ _ _ => rfl) (fun r c _ _ _ _ => by
    have := h.lo r c; have := h.hi r c
    rintro (h1 | h1 | ⟨h1, h2⟩)
    · omega
    · omega
    · subst h1; exact h2 (h.dia r))

def term (D : Int → Int → Int) (rk : Int → Int) (r c : Int) : Int := D r c * max 0 (1 + rk r - rk c)
def bnd (n : Nat) (D : Int → Int → Int) (rk : Int → Int) : Int := sm (fun r => sm (term D rk r) n) n

theorem term_le {n : Nat} {D : Int → Int → Int} (h : Valid n D) {rk : Int → Int} (r c : Int) (h1 : -1000 ≤ rk r ∧ rk r ≤ 1000) (h2 : -1000 ≤ rk c ∧ rk c ≤ 1000) : 0 ≤ term D rk r c ∧ term D rk r c ≤ 2001000000 := by
  have := mulb (h.lo r c) (h.hi r c) (show 0 ≤ max 0 (1 + rk r - rk c) by omega) (show max 0 (1 + rk r - rk c) ≤ 2001 by omega)
  exact ⟨this.1, by unfold term; omega⟩

theorem row_le {n : Nat} {D : Int → Int → Int} (h : Valid n D) {rk : Int → Int} (hr : ∀ i : Int, 0 ≤ i → i < n → -1000 ≤ rk i ∧ rk i ≤ 1000) (r : Int) (h0 : 0 ≤ r) (h1 : r < n) (j : Int) (hj : 0 ≤ j) (hj2 : j ≤ n) :
    0 ≤ sm (term D rk r) j ∧ sm (term D rk r) j ≤ j * 2001000000 :=
  ⟨sm_nonneg fun i a b => (term_le h r i (hr r h0 h1) (hr i a (by omega))).1, sm_bound _ hj fun i a b => (term_le h r i (hr r h0 h1) (hr i a (by omega))).2⟩
theorem rows_le {n : Nat} {D : Int → Int → Int} (h : Valid n D) {rk : Int → Int} (hr : ∀ i : Int, 0 ≤ i → i < n → -1000 ≤ rk i ∧ rk i ≤ 1000) (k : Int) (hk : 0 ≤ k) (hk2 : k ≤ n) :
    0 ≤ sm (fun r => sm (term D rk r) n) k ∧ sm (fun r => sm (term D rk r) n) k ≤ k * 64032000000 := by
  have hl := h.le
  refine ⟨sm_nonneg fun i a b => (row_le h hr i a (by omega) n (by omega) (Int.le_refl _)).1, sm_bound _ hk fun i a b => ?_⟩
  have := (row_le h hr i a (by omega) n (by omega) (Int.le_refl _)).2
  omega

theorem refBound_any (ao bo : Option Addr) (n c m cb : Nat) (D : Int → Int → Int) (rk : Int → Int) (w : World) (hv : Valid n D) (hm : n ≤ m) (hr : ∀ i : Int, 0 ≤ i → i < n → -1000 ≤ rk i ∧ rk i ≤ 1000)
    (h : ITab w.heap.size w ao n (fun _ => n) (fun r c => .int .i64 (D r c))) (h2 : IAt w.heap.size w bo m (fun i => .int .i64 (rk i))) :
    Calls Try.prog 17 #[.slice ao n c, .slice bo m cb] w fun e w' => e = .returned (.int .i64 (bnd n D rk)) ∧ Below w.heap.size w w' := by
  obtain ⟨A, C, RB, RO, gb, go, hga, hrow, hra, hel, _⟩ := h.open
  obtain ⟨qb, qo, hqa, hq⟩ := h2.open
  have hle := hv.le
  refine calls_of_run (F := [(0, _), (1, _)]) Try.func17 rfl Try.ntmps17 rfl rfl ?_
  have hO0 := Own.init w
  refine run_seq ?_
  refine run_region ?_
  refine rl_v rfl rfl rfl (ov_assign rfl rfl) ?_
  refine rl_nil ?_
  refine run_seq ?_
  refine run_region ?_
  refine rl_v rfl rfl rfl (ov_assign rfl rfl) ?_
  refine rl_nil ?_
  refine run_seq ?_
  refine run_seq ?_
  refine run_region ?_
  refine rl_v rfl rfl rfl (ov_assign rfl rfl) ?_
  refine rl_nil ?_
  refine run_block ?_
  refine Run.keep [0, 1, 5, 6] (F' := [(0, _), (1, _), (5, _), (6, _)]) rfl ?_
  refine run_loop1 (fun (k : Int) => [(6, .int .i64 k), (5, .int .i64 (sm (fun r => sm (term D rk r) n) k))]) [0, 1] (fun (k : Int) (w1 : World) => 0 ≤ k ∧ k ≤ n ∧ Own w.heap.size w w1 []) (fun (k : Int) => ((n : Int) - k).toNat) (0) ?_ (And.intro (by first | with_reducible rfl | exact slot_int rfl (by first | omega) | rfl) (And.intro (by first | with_reducible rfl | exact slot_int rfl (by first | omega | (rw [sm_succ _ hk0, show j = (n : Int) by omega])) | rfl) (And.intro rfl (And.intro rfl trivial)))) ?_
  · exact ⟨by omega, by omega, hO0⟩
  intro k w1 hIw1 ih2
  obtain ⟨hk0, hk1, hO⟩ := hIw1
  show Run _ _ _ _ [(6, _), (5, _), (0, _), (1, _)] _ _
  have hb1 := rows_le hv hr k hk0 hk1
  refine run_seq ?_
  refine run_seq ?_
  refine run_region ?_
  refine rl_v rfl rfl rfl (ov_move rfl rfl) ?_
  refine rl_v rfl rfl rfl (ov_move rfl rfl) ?_
  refine rl_v rfl rfl rfl (ov_len rfl Try.underlying22 rfl) ?_
  refine rl_v rfl rfl rfl (ov_lss rfl rfl rfl) ?_
  refine rl_nil ?_
  first | refine run_cond_dec rfl (fun h1 => ?_) (fun h1 => ?_) | refine run_cond rfl (fun h1 => ?_) (fun h1 => ?_)
  · refine run_skip ?_
    refine run_seq ?_
    refine run_block ?_
    refine run_seq ?_
    refine run_region ?_
    refine rl_v rfl rfl rfl (ov_assign rfl rfl) ?_
    refine rl_nil ?_
    refine run_block ?_
    refine Run.keep [0, 1, 5, 6, 7] (F' := [(0, _), (1, _), (5, _), (6, _), (7, _)]) rfl ?_
    refine run_loop1 (fun (j : Int) => [(7, .int .i64 j), (5, .int .i64 (sm (fun r => sm (term D rk r) n) k + sm (term D rk k) j))]) [0, 1, 6] (fun (j : Int) (w3 : World) => 0 ≤ j ∧ j ≤ n ∧ Own w.heap.size w w3 []) (fun (j : Int) => ((n : Int) - j).toNat) (0) ?_ (And.intro (by first | with_reducible rfl | exact slot_int rfl (by first | omega) | rfl) (And.intro (by first | with_reducible rfl | exact slot_int rfl (by first | omega | (first | (rw [sm_zero, Int.add_zero]) | (rw [sm_succ _ hj0]; unfold term; omega) | (rw [sm_succ _ hk0, show j = (n : Int) by omega]))) | rfl) (And.intro rfl (And.intro rfl (And.intro rfl trivial))))) ?_
    · exact ⟨by omega, by omega, hO⟩
    intro j w3 hIw3 ih4
    obtain ⟨hj0, hj1, hO2⟩ := hIw3
    show Run _ _ _ _ [(7, _), (5, _), (0, _), (1, _), (6, _)] _ _
    have hb2 := row_le hv hr k hk0 h1 j hj0 hj1
    refine run_seq ?_
    refine run_seq ?_
    refine run_region ?_
    refine rl_v rfl rfl rfl (ov_move rfl rfl) ?_
    refine rl_v rfl rfl rfl (ov_move rfl rfl) ?_
    refine rl_v rfl rfl rfl (ov_len rfl Try.underlying22 rfl) ?_
    refine rl_v rfl rfl rfl (ov_lss rfl rfl rfl) ?_
    refine rl_nil ?_
    first | refine run_cond_dec rfl (fun h2 => ?_) (fun h2 => ?_) | refine run_cond rfl (fun h2 => ?_) (fun h2 => ?_)
    · have hb3 := term_le hv k j (hr k hk0 h1) (hr j hj0 h2)
      have hb4 := hr k hk0 h1
      have hb5 := hr j hj0 h2
      refine run_skip ?_
      refine run_seq ?_
      refine run_block ?_
      refine run_quiet mixed (by kernel_rfl) ?_
      refine rq_v rfl rfl rfl (fun _ => ov_move rfl rfl) ?_
      refine rq_v rfl rfl rfl (fun _ => ov_move rfl rfl) ?_
      refine rq_v rfl rfl rfl (fun _ => ov_move rfl rfl) ?_
      refine rq_v rfl rfl rfl (fun _ => ov_index1 rfl Try.underlying22 (by kernel_rfl) rfl rfl ⟨by omega, by omega⟩ (by first | rfl | exact hga (by omega) | exact hra _ (by omega) (by omega) (by omega) | exact hqa (by omega))) ?_
      refine rq_v rfl rfl rfl (fun _ => ov_load rfl Try.underlying23 rfl rfl (by show World.cell? w3 _ = _; first | exact hrow _ hO2.below _ (by omega) (by omega) | exact hel _ hO2.below _ (by omega) (by omega) _ (by omega) (by omega) | exact hq _ hO2.below _ (by omega) (by omega) | exact hO2.cellI 0 rfl _ (by omega) (by omega) | exact hO2.cellL 0 rfl rfl | exact hO2.cellI 1 rfl _ (by omega) (by omega) | exact hO2.cellL 1 rfl rfl | exact hO2.cellI 2 rfl _ (by omega) (by omega) | exact hO2.cellL 2 rfl rfl | exact hO2.cellI 3 rfl _ (by omega) (by omega) | exact hO2.cellL 3 rfl rfl | exact hO2.cellI 4 rfl _ (by omega) (by omega) | exact hO2.cellL 4 rfl rfl | exact hO2.cellI 5 rfl _ (by omega) (by omega) | exact hO2.cellL 5 rfl rfl)) ?_
      refine rq_v rfl rfl rfl (fun _ => ov_move rfl rfl) ?_
      refine rq_v rfl rfl rfl (fun _ => ov_index1 rfl Try.underlying23 (by kernel_rfl) rfl rfl ⟨by omega, by omega⟩ (by first | rfl | exact hga (by omega) | exact hra _ (by omega) (by omega) (by omega) | exact hqa (by omega))) ?_
      refine rq_v rfl rfl rfl (fun _ => ov_load rfl Try.underlying2 rfl rfl (by show World.cell? w3 _ = _; first | exact hrow _ hO2.below _ (by omega) (by omega) | exact hel _ hO2.below _ (by omega) (by omega) _ (by omega) (by omega) | exact hq _ hO2.below _ (by omega) (by omega) | exact hO2.cellI 0 rfl _ (by omega) (by omega) | exact hO2.cellL 0 rfl rfl | exact hO2.cellI 1 rfl _ (by omega) (by omega) | exact hO2.cellL 1 rfl rfl | exact hO2.cellI 2 rfl _ (by omega) (by omega) | exact hO2.cellL 2 rfl rfl | exact hO2.cellI 3 rfl _ (by omega) (by omega) | exact hO2.cellL 3 rfl rfl | exact hO2.cellI 4 rfl _ (by omega) (by omega) | exact hO2.cellL 4 rfl rfl | exact hO2.cellI 5 rfl _ (by omega) (by omega) | exact hO2.cellL 5 rfl rfl)) ?_
      refine rq_v rfl rfl rfl (fun _ => ov_move rfl rfl) ?_
      refine rq_v rfl rfl rfl (fun _ => ov_move rfl rfl) ?_
      refine rq_v rfl rfl rfl (fun _ => ov_index1 rfl Try.underlying23 (by kernel_rfl) rfl rfl ⟨by omega, by omega⟩ (by first | rfl | exact hga (by omega) | exact hra _ (by omega) (by omega) (by omega) | exact hqa (by omega))) ?_
      refine rq_v rfl rfl rfl (fun _ => ov_load rfl Try.underlying2 rfl rfl (by show World.cell? w3 _ = _; first | exact hrow _ hO2.below _ (by omega) (by omega) | exact hel _ hO2.below _ (by omega) (by omega) _ (by omega) (by omega) | exact hq _ hO2.below _ (by omega) (by omega) | exact hO2.cellI 0 rfl _ (by omega) (by omega) | exact hO2.cellL 0 rfl rfl | exact hO2.cellI 1 rfl _ (by omega) (by omega) | exact hO2.cellL 1 rfl rfl | exact hO2.cellI 2 rfl _ (by omega) (by omega) | exact hO2.cellL 2 rfl rfl | exact hO2.cellI 3 rfl _ (by omega) (by omega) | exact hO2.cellL 3 rfl rfl | exact hO2.cellI 4 rfl _ (by omega) (by omega) | exact hO2.cellL 4 rfl rfl | exact hO2.cellI 5 rfl _ (by omega) (by omega) | exact hO2.cellL 5 rfl rfl)) ?_
      refine rq_v rfl rfl rfl (fun _ => ov_add rfl rfl rfl (by omega)) ?_
      refine rq_v rfl rfl rfl (fun _ => ov_move rfl rfl) ?_
      refine rq_v rfl rfl rfl (fun _ => ov_move rfl rfl) ?_
      refine rq_v rfl rfl rfl (fun _ => ov_index1 rfl Try.underlying23 (by kernel_rfl) rfl rfl ⟨by omega, by omega⟩ (by first | rfl | exact hga (by omega) | exact hra _ (by omega) (by omega) (by omega) | exact hqa (by omega))) ?_
      refine rq_v rfl rfl rfl (fun _ => ov_load rfl Try.underlying2 rfl rfl (by show World.cell? w3 _ = _; first | exact hrow _ hO2.below _ (by omega) (by omega) | exact hel _ hO2.below _ (by omega) (by omega) _ (by omega) (by omega) | exact hq _ hO2.below _ (by omega) (by omega) | exact hO2.cellI 0 rfl _ (by omega) (by omega) | exact hO2.cellL 0 rfl rfl | exact hO2.cellI 1 rfl _ (by omega) (by omega) | exact hO2.cellL 1 rfl rfl | exact hO2.cellI 2 rfl _ (by omega) (by omega) | exact hO2.cellL 2 rfl rfl | exact hO2.cellI 3 rfl _ (by omega) (by omega) | exact hO2.cellL 3 rfl rfl | exact hO2.cellI 4 rfl _ (by omega) (by omega) | exact hO2.cellL 4 rfl rfl | exact hO2.cellI 5 rfl _ (by omega) (by omega) | exact hO2.cellL 5 rfl rfl)) ?_
      refine rq_v rfl rfl rfl (fun _ => ov_sub rfl rfl rfl (by omega)) ?_
      refine rq_v rfl rfl rfl (fun _ => ov_max rfl rfl rfl) ?_
      refine rq_v rfl rfl rfl (fun _ => ov_mul rfl rfl rfl (by unfold term at hb3; omega)) ?_
      refine rq_v rfl rfl rfl (fun _ => ov_add rfl rfl rfl (by unfold term at hb3; omega)) ?_
      refine rq_v rfl rfl rfl (fun _ => ov_assign rfl rfl) ?_
      refine rq_nil (fun n5 => ?_)
      have hO7 := hO2.drewN n5
      generalize World.drewN w3 n5 = w6 at hO7 ⊢
      refine run_inBlock ?_
      refine run_region ?_
      refine rl_v rfl rfl rfl (ov_move rfl rfl) ?_
      refine rl_v rfl rfl rfl (ov_add rfl rfl rfl (by omega)) ?_
      refine rl_v rfl rfl rfl (ov_assign rfl rfl) ?_
      refine rl_nil ?_
      refine Run.use (ih4 _ _ ?_ ?_) (And.intro (by first | with_reducible rfl | exact slot_int rfl (by first | omega) | rfl) (And.intro (by first | with_reducible rfl | exact slot_int rfl (by first | omega | (first | (rw [sm_zero, Int.add_zero]) | (rw [sm_succ _ hj0]; unfold term; omega) | (rw [sm_succ _ hk0, show j = (n : Int) by omega]))) | rfl) (And.intro rfl (And.intro rfl (And.intro rfl trivial)))))
      · first | omega | (dsimp only; omega)
      · exact ⟨by omega, by omega, hO7⟩
    · refine run_exit rfl ?_
      refine run_inBlock ?_
      refine run_region ?_
      refine rl_v rfl rfl rfl (ov_move rfl rfl) ?_
      refine rl_v rfl rfl rfl (ov_add rfl rfl rfl (by omega)) ?_
      refine rl_v rfl rfl rfl (ov_assign rfl rfl) ?_
      refine rl_nil ?_
      refine Run.use (ih2 _ _ ?_ ?_) (And.intro (by first | with_reducible rfl | exact slot_int rfl (by first | omega) | rfl) (And.intro (by first | with_reducible rfl | exact slot_int rfl (by first | omega | (first | (rw [sm_zero, Int.add_zero]) | (rw [sm_succ _ hj0]; unfold term; omega) | (rw [sm_succ _ hk0, show j = (n : Int) by omega]))) | rfl) (And.intro rfl (And.intro rfl trivial))))
      · first | omega | (dsimp only; omega)
      · exact ⟨by omega, by omega, hO2⟩
  · refine run_exit rfl ?_
    refine run_seq ?_
    refine run_region ?_
    refine rl_v rfl rfl rfl (ov_move rfl rfl) ?_
    refine rl_v rfl rfl rfl (ov_assign rfl rfl) ?_
    refine rl_nil ?_
    refine run_ret Try.func17 (res1 Try.results17 rfl) ?_
    exact ⟨by rw [show k = (n : Int) by omega]; rfl, hO.below⟩
end Go.Proofs.Ytiambddcpflkhaa
