/- Debts: ranks; rings of a table. -/
import Derived.Test.YtiambddcpflkhaaCanB
import Derived.Test.YtiambddcpflkhaaNetT
set_option maxRecDepth 100000
namespace Go.Proofs.Ytiambddcpflkhaa
open Go.RowKit Go.Proofs

/-- Heights at the end are at most the number of parties. -/
theorem low {n : Nat} {M : Int} {fr to gn lf h l τ : Int → Int} (H : Back n M fr to gn lf h l τ) (hg : ∀ e : Int, 0 ≤ e → e < M → gn e ≤ 1) (hc : ∀ e : Int, 0 ≤ e → e < M → 0 < lf e → h (fr e) + gn e ≤ h (to e)) (hz : ∀ v, τ v ≤ 0 → h v = 0) :
    ∀ (t : Nat) (v : Int), (τ v).toNat = t → h v ≤ (pk (fun u => decide (τ u < τ v)) n).length := by
  intro t
  induction t using Nat.strongRecOn with
  | _ t ih =>
    intro v hv
    by_cases h0 : τ v ≤ 0
    · rw [hz v h0]; omega
    · obtain ⟨a0, a1, a2, a3, _, a5, a6⟩ := H.at_ v (by omega)
      obtain ⟨f0, f1⟩ := H.fr_ _ a0 a1
      have hcalm := hc _ a0 a1 a3
      rw [a2] at hcalm
      have hlt : τ (fr (l v)) < τ v := by
        refine Classical.byContradiction fun hx => ?_
        have := a6 (by omega)
        omega
      have h1 := ih (τ (fr (l v))).toNat (by omega) (fr (l v)) rfl
      have h2 := pk_lt (P := fun u => decide (τ u < τ (fr (l v)))) (Q := fun u => decide (τ u < τ v)) (k := n) (fun i _ _ hi => decide_eq_true (by have := of_decide_eq_true hi; omega)) (fr (l v)) f0 f1 (decide_eq_false (by omega)) (decide_eq_true hlt)
      have h3 := hg _ a0 a1
      omega

theorem min_any (ao : Option Addr) (n c : Nat) (X : Int → Int) (w : World) (hn : 1 ≤ n) (hn2 : n ≤ 1000000) (h : IAt w.heap.size w ao n (fun i => .int .i64 (X i))) :
    Calls Try.prog 80 #[.slice ao n c] w fun e w' => (∃ m : Int, e = .returned (.int .i64 m) ∧ (∃ i : Int, 0 ≤ i ∧ i < n ∧ m = X i) ∧ ∀ i : Int, 0 ≤ i → i < n → m ≤ X i) ∧ Below w.heap.size w w' := by
  obtain ⟨gb, go, hga, hrow⟩ := h.open
  refine calls_of_run (F := [(0, _)]) Try.func80 rfl Try.ntmps80 rfl rfl ?_
  have hO0 := Own.init w
  refine run_seq ?_
  refine run_region ?_
  refine rl_v rfl rfl rfl (ov_assign rfl rfl) ?_
  refine rl_nil ?_
  refine run_seq ?_
  refine run_seq ?_
  refine run_region ?_
  refine rl_v rfl rfl rfl (ov_move rfl rfl) ?_
  refine rl_v rfl rfl rfl (ov_len rfl Try.underlying23 rfl) ?_
  refine rl_v rfl rfl rfl (ov_lss rfl rfl rfl) ?_
  refine rl_nil ?_
  first | refine run_cond_dec rfl (fun h1 => ?_) (fun h1 => ?_) | refine run_cond rfl (fun h1 => ?_) (fun h1 => ?_)
  · exfalso; omega
  · refine run_skip ?_
    refine run_seq ?_
    refine run_region ?_
    refine rl_v rfl rfl rfl (ov_move rfl rfl) ?_
    refine rl_v rfl rfl rfl (ov_index1 rfl Try.underlying23 (by kernel_rfl) rfl rfl ⟨by omega, by omega⟩ (by first | rfl | exact hga (by omega))) ?_
    refine rl_v rfl rfl rfl (ov_load rfl Try.underlying2 rfl rfl (by first | exact hrow _ hO0.below _ (by omega) (by omega) | exact hO0.cellI 0 rfl _ (by omega) (by omega) | exact hO0.cellL 0 rfl rfl | exact hO0.cellI 1 rfl _ (by omega) (by omega) | exact hO0.cellL 1 rfl rfl | exact hO0.cellI 2 rfl _ (by omega) (by omega) | exact hO0.cellL 2 rfl rfl | exact hO0.cellI 3 rfl _ (by omega) (by omega) | exact hO0.cellL 3 rfl rfl | exact hO0.cellI 4 rfl _ (by omega) (by omega) | exact hO0.cellL 4 rfl rfl | exact hO0.cellI 5 rfl _ (by omega) (by omega) | exact hO0.cellL 5 rfl rfl)) ?_
    refine rl_v rfl rfl rfl (ov_assign rfl rfl) ?_
    refine rl_nil ?_
    refine run_seq ?_
    refine run_seq ?_
    refine run_region ?_
    refine rl_v rfl rfl rfl (ov_assign rfl rfl) ?_
    refine rl_nil ?_
    refine run_block ?_
    refine Run.keep [0, 3, 4] (F' := [(0, _), (3, _), (4, _)]) rfl ?_
    refine run_loop2 (fun (k : Int) (m : Int) => [(4, .int .i64 k), (3, .int .i64 m)]) [0] (fun (k : Int) (m : Int) (w1 : World) => 1 ≤ k ∧ k ≤ n ∧ (∃ i : Int, 0 ≤ i ∧ i < n ∧ m = X i) ∧ (∀ i : Int, 0 ≤ i → i < k → m ≤ X i) ∧ Own w.heap.size w w1 []) (fun (k : Int) (m : Int) => ((n : Int) - k).toNat) (1) (X 0) ?_ (And.intro (by first | with_reducible rfl | exact slot_int rfl (by first | omega) | rfl) (And.intro (by first | with_reducible rfl | exact slot_int rfl (by first | omega) | rfl) (And.intro rfl trivial))) ?_
    · exact ⟨by omega, by omega, ⟨0, by omega, by omega, rfl⟩, fun i i0 i1 => by rw [show i = 0 by omega]; exact Int.le_refl _, hO0⟩
    intro k m w1 hIw1 ih2
    obtain ⟨hk0, hk1, hm, hall, hO⟩ := hIw1
    show Run _ _ _ _ [(4, _), (3, _), (0, _)] _ _
    refine run_seq ?_
    refine run_seq ?_
    refine run_region ?_
    refine rl_v rfl rfl rfl (ov_move rfl rfl) ?_
    refine rl_v rfl rfl rfl (ov_move rfl rfl) ?_
    refine rl_v rfl rfl rfl (ov_len rfl Try.underlying23 rfl) ?_
    refine rl_v rfl rfl rfl (ov_lss rfl rfl rfl) ?_
    refine rl_nil ?_
    first | refine run_cond_dec rfl (fun h2 => ?_) (fun h2 => ?_) | refine run_cond rfl (fun h2 => ?_) (fun h2 => ?_)
    · refine run_skip ?_
      refine run_seq ?_
      refine run_block ?_
      refine run_region ?_
      refine rl_v rfl rfl rfl (ov_move rfl rfl) ?_
      refine rl_v rfl rfl rfl (ov_move rfl rfl) ?_
      refine rl_v rfl rfl rfl (ov_move rfl rfl) ?_
      refine rl_v rfl rfl rfl (ov_index1 rfl Try.underlying23 (by kernel_rfl) rfl rfl ⟨by omega, by omega⟩ (by first | rfl | exact hga (by omega))) ?_
      refine rl_v rfl rfl rfl (ov_load rfl Try.underlying2 rfl rfl (by first | exact hrow _ hO.below _ (by omega) (by omega) | exact hO.cellI 0 rfl _ (by omega) (by omega) | exact hO.cellL 0 rfl rfl | exact hO.cellI 1 rfl _ (by omega) (by omega) | exact hO.cellL 1 rfl rfl | exact hO.cellI 2 rfl _ (by omega) (by omega) | exact hO.cellL 2 rfl rfl | exact hO.cellI 3 rfl _ (by omega) (by omega) | exact hO.cellL 3 rfl rfl | exact hO.cellI 4 rfl _ (by omega) (by omega) | exact hO.cellL 4 rfl rfl | exact hO.cellI 5 rfl _ (by omega) (by omega) | exact hO.cellL 5 rfl rfl)) ?_
      refine rl_v rfl rfl rfl (ov_min rfl rfl rfl) ?_
      refine rl_v rfl rfl rfl (ov_assign rfl rfl) ?_
      refine rl_nil ?_
      refine run_inBlock ?_
      refine run_region ?_
      refine rl_v rfl rfl rfl (ov_move rfl rfl) ?_
      refine rl_v rfl rfl rfl (ov_add rfl rfl rfl (by omega)) ?_
      refine rl_v rfl rfl rfl (ov_assign rfl rfl) ?_
      refine rl_nil ?_
      refine Run.use (ih2 (k + 1) (min m (X k)) _ ?_ ?_) (And.intro (by first | with_reducible rfl | exact slot_int rfl (by first | omega) | rfl) (And.intro (by first | with_reducible rfl | exact slot_int rfl (by first | omega) | rfl) (And.intro rfl trivial)))
      · first | omega | (dsimp only; omega)
      · exact ⟨by omega, by omega, (by omega : min m (X k) = m ∨ min m (X k) = X k).elim (fun e => by rw [e]; exact hm) (fun e => ⟨k, by omega, h2, e⟩), fun i i0 i1 => (by omega : i = k ∨ i < k).elim (fun e => by rw [e]; omega) (fun e => by have := hall i i0 e; omega), hO⟩
    · refine run_exit rfl ?_
      refine run_seq ?_
      refine run_region ?_
      refine rl_v rfl rfl rfl (ov_move rfl rfl) ?_
      refine rl_v rfl rfl rfl (ov_assign rfl rfl) ?_
      refine rl_nil ?_
      refine run_ret Try.func80 (res1 Try.results80 rfl) ?_
      exact ⟨⟨m, rfl, hm, fun i i0 i1 => hall i i0 (by omega)⟩, hO.below⟩

theorem bnd_shift (n : Nat) (D : Int → Int → Int) (rk rk' : Int → Int) (m : Int) (h : ∀ i : Int, 0 ≤ i → i < n → rk' i = rk i - m) : bnd n D rk' = bnd n D rk :=
  sm_congr fun i i0 i1 => sm_congr fun j j0 j1 => by
    unfold term
    rw [h i i0 i1, h j j0 j1, show 1 + (rk i - m) - (rk j - m) = 1 + rk i - rk j by omega]

theorem ranks_any (ao : Option Addr) (n c : Nat) (D : Int → Int → Int) (w : World) (hv : Valid n D) (h : ITab w.heap.size w ao n (fun _ => n) (fun r c => .int .i64 (D r c))) :
    Calls Try.prog 50 #[.slice ao n c] w fun e w' =>
      ∃ (b : Nat) (rk : Int → Int) (x : Int → Int → Int), e = .returned (.tuple #[.slice (some ⟨b, 0, none⟩) n n, .int .i64 0]) ∧ Own w.heap.size w w' [some (vch b 2 n (fun i => .int .i64 (rk i)))] ∧ Circ n D x ∧ (∀ i : Int, 0 ≤ i → i < n → 0 ≤ rk i ∧ rk i ≤ 1000) ∧ bnd n D rk = total n x := by
  have hpos := hv.pos
  have hle := hv.le
  have hM : ((2 * (n * n) : Nat) : Int) = 2 * ((n : Int) * n) := by simp
  refine calls_of_run (F := [(0, _)]) Try.func50 rfl Try.ntmps50 rfl rfl ?_
  have hO0 := Own.init w
  refine run_seq ?_
  refine run_region ?_
  refine rl_v rfl rfl rfl (ov_assign rfl rfl) ?_
  refine rl_v rfl rfl rfl (ov_assign rfl rfl) ?_
  refine rl_nil ?_
  refine run_seq ?_
  refine run_seq ?_
  refine run_region ?_
  refine rl_v rfl rfl rfl (ov_move rfl rfl) ?_
  refine rl_call callable_58 rfl rfl rfl rfl rfl rfl (check_any ao n c (fun _ => n) D _ (by omega) h) (fun e1 w2 hp3 => ?_)
  obtain ⟨rfl, hb⟩ := hp3
  refine ⟨_, rfl, ?_⟩
  have hO4 := hO0.past hb
  rw [hv.chk]
  refine rl_v rfl rfl rfl (ov_assign rfl rfl) ?_
  refine rl_nil ?_
  refine run_seq ?_
  refine run_region ?_
  refine rl_v rfl rfl rfl (ov_move rfl rfl) ?_
  refine rl_v rfl rfl rfl (ov_neq rfl rfl rfl) ?_
  refine rl_nil ?_
  first | refine run_cond_dec rfl (fun h1 => ?_) (fun h1 => ?_) | refine run_cond rfl (fun h1 => ?_) (fun h1 => ?_)
  · exfalso; exact h1 rfl
  · refine run_skip ?_
    refine run_seq ?_
    refine run_region ?_
    refine rl_v rfl rfl rfl (ov_move rfl rfl) ?_
    refine rl_call callable_59 rfl rfl rfl rfl rfl rfl (newCircle_any ao n c D _ hle (h.later hO4.below)) (fun e5 w6 hp7 => ?_)
    obtain ⟨b, v1, c1, rfl, hO1, hR⟩ := hp7
    refine ⟨_, rfl, ?_⟩
    have hO8 := hO4.join hO1
    obtain ⟨aa, ca, rfl⟩ := hR.val
    refine rl_call callable_60 rfl rfl rfl rfl rfl rfl (fill_any _ _ _ [] b n c (2 * (n * n)) ca ao aa c1 D (alf n D) hpos hle hM hv.hi hO8 hR (alf_flow hv.lo)) (fun e9 w10 hp11 => ?_)
    obtain ⟨bh, hh, lf, c2, rfl, hO2, hR2, hF, hhb, hcalm, l, τ, hB, hz⟩ := hp11
    refine ⟨_, rfl, ?_⟩
    have hlow : ∀ v : Int, hh v ≤ 32 := fun v => by
      have h1 := low hB (fun e e0 e1 => (arc_rng hpos e0 (by omega)).2.2.2) hcalm hz _ v rfl
      have h2 := pk_len (fun u => decide (τ u < τ v)) n
      omega
    have hO3 := hO2.sub (H' := [some (vch bh 2 n (fun v => .int .i64 (hh v)))]) (.cons_cons _ (List.nil_sublist _))
    refine rl_v rfl rfl rfl (ov_assign rfl rfl) ?_
    refine rl_nil ?_
    refine run_seq ?_
    refine run_region ?_
    refine rl_v rfl rfl rfl (ov_move rfl rfl) ?_
    refine rl_call callable_80 rfl rfl rfl rfl rfl rfl (min_any _ n n hh _ hpos (by omega) (hO3.readsI 0 rfl)) (fun e12 w13 hp14 => ?_)
    obtain ⟨⟨m, rfl, ⟨im, im0, im1, hmi⟩, hmin⟩, hb4⟩ := hp14
    refine ⟨_, rfl, ?_⟩
    have hO15 := hO3.past hb4
    have hm0 := hhb im
    refine rl_v rfl rfl rfl (ov_assign rfl rfl) ?_
    refine rl_nil ?_
    refine run_seq ?_
    refine run_seq ?_
    refine run_region ?_
    refine rl_v rfl rfl rfl (ov_move rfl rfl) ?_
    refine rl_v rfl rfl rfl (ov_len rfl Try.underlying23 rfl) ?_
    refine rl_v rfl rfl rfl (ov_move rfl rfl) ?_
    refine rl_nil ?_
    refine run_block ?_
    refine Run.keep [5, 6, 19, 20] (F' := [(5, _), (6, _), (19, _), (20, _)]) rfl ?_
    refine run_loop2 (fun (k : Int) (g : Int → Int) => [(20, .int .i64 k)]) [5, 6, 19] (fun (k : Int) (g : Int → Int) (w16 : World) => 0 ≤ k ∧ k ≤ n ∧ (∀ i : Int, 0 ≤ i → i < n → g i = if i < k then hh i - m else hh i) ∧ Own w.heap.size w w16 [some (vch bh 2 n (fun v => .int .i64 (g v)))]) (fun (k : Int) (g : Int → Int) => ((n : Int) - k).toNat) (0) (hh) ?_ (And.intro (by first | with_reducible rfl | exact slot_int rfl (by first | omega) | rfl) (And.intro rfl (And.intro rfl (And.intro rfl trivial)))) ?_
    · exact ⟨by omega, by omega, fun i i0 i1 => by rw [if_neg (by omega)], hO15⟩
    intro k g w16 hIw16 ih17
    obtain ⟨hk0, hk1, hg, hO⟩ := hIw16
    show Run _ _ _ _ [(20, _), (5, _), (6, _), (19, _)] _ _
    refine run_seq ?_
    refine run_region ?_
    refine rl_v rfl rfl rfl (ov_lss rfl rfl rfl) ?_
    refine rl_nil ?_
    refine run_seq ?_
    first | refine run_cond_dec rfl (fun h5 => ?_) (fun h5 => ?_) | refine run_cond rfl (fun h5 => ?_) (fun h5 => ?_)
    · have hgk := hg k hk0 h5
      rw [if_neg (Int.lt_irrefl k)] at hgk
      have hhk := hhb k
      refine run_skip ?_
      refine run_seq ?_
      refine run_block ?_
      refine run_seq ?_
      refine run_region ?_
      refine rl_v rfl rfl rfl (ov_move rfl rfl) ?_
      refine rl_v rfl rfl rfl (ov_assign rfl rfl) ?_
      refine rl_nil ?_
      refine run_region ?_
      refine rl_v rfl rfl rfl (ov_move rfl rfl) ?_
      refine rl_v rfl rfl rfl (ov_move rfl rfl) ?_
      refine rl_v rfl rfl rfl (ov_index1 rfl Try.underlying23 (by kernel_rfl) rfl rfl ⟨by omega, by omega⟩ rfl) ?_
      refine rl_v rfl rfl rfl (ov_load rfl Try.underlying2 rfl rfl (by first | exact hO.cellI 0 rfl _ (by omega) (by omega) | exact hO.cellL 0 rfl rfl | exact hO.cellI 1 rfl _ (by omega) (by omega) | exact hO.cellL 1 rfl rfl | exact hO.cellI 2 rfl _ (by omega) (by omega) | exact hO.cellL 2 rfl rfl | exact hO.cellI 3 rfl _ (by omega) (by omega) | exact hO.cellL 3 rfl rfl | exact hO.cellI 4 rfl _ (by omega) (by omega) | exact hO.cellL 4 rfl rfl | exact hO.cellI 5 rfl _ (by omega) (by omega) | exact hO.cellL 5 rfl rfl)) ?_
      refine rl_v rfl rfl rfl (ov_move rfl rfl) ?_
      refine rl_v rfl rfl rfl (ov_sub rfl rfl rfl (by omega)) ?_
      refine rl_v rfl rfl rfl (ov_index1 rfl Try.underlying23 (by kernel_rfl) rfl rfl ⟨by omega, by omega⟩ rfl) ?_
      refine rl_ow rfl (ow_storeI rfl rfl (by kernel_rfl) hO 0 rfl rfl ⟨by omega, by omega⟩ rfl) ?_
      rintro _ w18 ⟨rfl, hO19, hs20⟩
      refine rl_nil ?_
      refine run_inBlock ?_
      refine run_region ?_
      refine rl_v rfl rfl rfl (ov_add rfl rfl rfl (by omega)) ?_
      refine rl_v rfl rfl rfl (ov_move rfl rfl) ?_
      refine rl_nil ?_
      refine Run.use (ih17 (k + 1) (upd g k (g k - m)) _ ?_ ?_) (And.intro (by first | with_reducible rfl | exact slot_int rfl (by first | omega) | rfl) (And.intro rfl (And.intro rfl (And.intro rfl trivial))))
      · first | omega | (dsimp only; omega)
      · exact ⟨by omega, by omega, fun i i0 i1 => by unfold upd; split; (rename_i e; rw [e, if_pos (by omega), hgk]); (rename_i e; rw [hg i i0 i1]; split <;> split <;> first | rfl | omega), hO19⟩
    · obtain rfl : k = n := by omega
      have hgm : ∀ i : Int, 0 ≤ i → i < n → g i = hh i - m := fun i i0 i1 => by rw [hg i i0 i1, if_pos i1]
      refine run_exit rfl ?_
      refine run_seq ?_
      refine run_region ?_
      refine rl_v rfl rfl rfl (ov_move rfl rfl) ?_
      refine rl_v rfl rfl rfl (ov_assign rfl rfl) ?_
      refine rl_v rfl rfl rfl (ov_assign rfl rfl) ?_
      refine rl_nil ?_
      refine run_ret Try.func50 (res2 Try.results50 rfl rfl) ?_
      exact ⟨bh, g, xf n lf, rfl, hO, hF.circ, fun i i0 i1 => by rw [hgm i i0 i1]; have := hmin i i0 i1; have := hlow i; have := hhb i; omega, (bnd_shift n D hh g m hgm).trans (hF.strong (fun e e0 e1 => hcalm e e0 (by omega)))⟩

/-- The table has a ring: a set of parties each of whom owes another one of it. -/
def HasRing (n : Nat) (D : Int → Int → Int) : Prop :=
  ∃ T : Int → Prop, (∃ v : Int, 0 ≤ v ∧ v < n ∧ T v) ∧ ∀ v : Int, 0 ≤ v → v < n → T v → ∃ j : Int, 0 ≤ j ∧ j < n ∧ T j ∧ 0 < D v j

theorem noRing {n : Nat} {D : Int → Int → Int} (f : Int → Int) (hf : ∀ i, 0 ≤ f i) (h : ∀ i j : Int, 0 ≤ i → i < n → 0 ≤ j → j < n → 0 < D i j → f j < f i) : ¬ HasRing n D := by
  rintro ⟨T, ⟨v, v0, v1, hv⟩, hT⟩
  have key : ∀ (k : Nat) (v : Int), (f v).toNat = k → 0 ≤ v → v < n → ¬ T v := by
    intro k
    induction k using Nat.strongRecOn with
    | _ k ih =>
      intro v hk v0 v1 hv
      obtain ⟨j, j0, j1, hj, hd⟩ := hT v v0 v1 hv
      have h1 := h v j v0 v1 j0 j1 hd
      have h2 := hf j
      exact ih (f j).toNat (by omega) j rfl j0 j1 hj
  exact key _ v rfl v0 v1 hv

/-- What is left without a greatest cancelling has no ring. -/
theorem slack {n : Nat} {D x : Int → Int → Int} {rk : Int → Int} (hc : Circ n D x) (hv : Valid n D) (hb : bnd n D rk = total n x) (i j : Int) (i0 : 0 ≤ i) (i1 : i < n) (j0 : 0 ≤ j) (j1 : j < n) (hd : 0 < D i j - x i j) : rk i < rk j := by
  have h1 := hc.ranks rk
  have hle : ∀ a b : Int, 0 ≤ a → a < n → 0 ≤ b → b < n → 0 ≤ term D rk a b - x a b * (1 + rk a - rk b) := fun a b a0 a1 b0 b1 => by
    unfold term
    have l1 := hc.lo a b a0 a1 b0 b1
    have l2 := hc.hi a b a0 a1 b0 b1
    by_cases q : 0 ≤ 1 + rk a - rk b
    · rw [show max 0 (1 + rk a - rk b) = 1 + rk a - rk b by omega]
      have := Int.mul_le_mul_of_nonneg_right l2 q
      omega
    · rw [show max 0 (1 + rk a - rk b) = 0 by omega, Int.mul_zero]
      have := Int.mul_nonneg l1 (show 0 ≤ -(1 + rk a - rk b) by omega)
      rw [Int.mul_neg] at this
      omega
  have h2 : sm (fun a => sm (fun b => term D rk a b - x a b * (1 + rk a - rk b)) n) n = 0 := by
    rw [sm_congr (fun a _ _ => sm_sub (fun b => term D rk a b) (fun b => x a b * (1 + rk a - rk b)) n), sm_sub]
    show bnd n D rk - _ = 0
    rw [h1, hb]; omega
  have h3 : sm (fun b => term D rk i b - x i b * (1 + rk i - rk b)) n ≤ sm (fun a => sm (fun b => term D rk a b - x a b * (1 + rk a - rk b)) n) n :=
    sm_pos (f := fun a => sm (fun b => term D rk a b - x a b * (1 + rk a - rk b)) n) (fun a a0 a1 => sm_nonneg fun b b0 b1 => hle a b a0 a1 b0 b1) i i0 i1
  have h4 : term D rk i j - x i j * (1 + rk i - rk j) ≤ sm (fun b => term D rk i b - x i b * (1 + rk i - rk b)) n :=
    sm_pos (f := fun b => term D rk i b - x i b * (1 + rk i - rk b)) (fun b b0 b1 => hle i b i0 i1 b0 b1) j j0 j1
  refine Classical.byContradiction fun hx => ?_
  have h6 : term D rk i j - x i j * (1 + rk i - rk j) ≤ 0 := Int.le_trans h4 (Int.le_trans h3 (Int.le_of_eq h2))
  unfold term at h6
  rw [show max 0 (1 + rk i - rk j) = 1 + rk i - rk j by omega] at h6
  have h5 : 0 < (D i j - x i j) * (1 + rk i - rk j) := Int.mul_pos hd (by omega)
  rw [Int.sub_mul] at h5
  omega
end Go.Proofs.Ytiambddcpflkhaa
