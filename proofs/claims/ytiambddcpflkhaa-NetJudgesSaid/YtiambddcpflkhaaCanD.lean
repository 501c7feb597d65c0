/- Debts: the reference's Rings. -/
import Derived.Test.YtiambddcpflkhaaCanC
set_option maxRecDepth 100000
namespace Go.Proofs.Ytiambddcpflkhaa
open Go.RowKit Go.Proofs

def ClosedS (n : Nat) (D : Int → Int → Int) (C : Int → Prop) : Prop := ∀ v : Int, 0 ≤ v → v < n → C v → ∃ j : Int, 0 ≤ j ∧ j < n ∧ C j ∧ 0 < D v j
/-- What is left holds every set that is closed. -/
def Holds' (n : Nat) (D : Int → Int → Int) (L : Int → Bool) : Prop := ∀ C : Int → Prop, ClosedS n D C → ∀ v : Int, 0 ≤ v → v < n → C v → L v = true
/-- A round up to i, from L0. -/
structure Rnd (n : Nat) (D : Int → Int → Int) (L0 L : Int → Bool) (i : Int) : Prop where
  sub : ∀ v, L v = true → L0 v = true
  hold : Holds' n D L
  step : (∀ v : Int, 0 ≤ v → v < n → L v = L0 v) ∧ (∀ v : Int, 0 ≤ v → v < i → L0 v = true → ∃ j : Int, 0 ≤ j ∧ j < n ∧ L0 j = true ∧ 0 < D v j) ∨ (pk L n).length < (pk L0 n).length

theorem Rnd.start {n : Nat} {D : Int → Int → Int} {L : Int → Bool} (h : Holds' n D L) : Rnd n D L L 0 := ⟨fun _ h => h, h, .inl ⟨fun _ _ _ => rfl, fun v v0 v1 => by omega⟩⟩
theorem Rnd.next {n : Nat} {D : Int → Int → Int} {L0 L : Int → Bool} {i : Int} {ow b : Bool} (h : Rnd n D L0 L i) (i0 : 0 ≤ i) (i1 : i < n) (how : ow = true ↔ ∃ j : Int, 0 ≤ j ∧ j < n ∧ L j = true ∧ 0 < D i j) (hb : b = (L i && ow)) : Rnd n D L0 (upd L i b) (i + 1) := by
  subst hb
  have hle : ∀ v, upd L i (L i && ow) v = true → L v = true := fun v hv => by
    unfold upd at hv
    split at hv
    · rename_i e; rw [e]; rw [Bool.and_eq_true] at hv; exact hv.1
    · exact hv
  refine ⟨fun v hv => h.sub v (hle v hv), fun C hC v v0 v1 hv => ?_, ?_⟩
  · have h1 := h.hold C hC v v0 v1 hv
    unfold upd
    split
    · rename_i e
      subst e
      obtain ⟨j, j0, j1, hj, hd⟩ := hC v v0 v1 hv
      rw [h1, how.2 ⟨j, j0, j1, h.hold C hC j j0 j1 hj, hd⟩]; rfl
    · exact h1
  · by_cases q : L i = true ∧ ow = false
    · refine .inr ?_
      have h1 := pk_lt (P := upd L i (L i && ow)) (Q := L) (k := n) (fun v _ _ hv => hle v hv) i i0 i1 (by unfold upd; rw [if_pos rfl, q.2, Bool.and_false]) q.1
      rcases h.step with ⟨h2, _⟩ | h2
      · have := pk_congr (P := L) (Q := L0) (k := n) h2
        rw [this] at h1; exact h1
      · omega
    · have he : ∀ v, upd L i (L i && ow) v = L v := fun v => by
        unfold upd
        split
        · rename_i e
          rw [e]
          cases hl : L i with
          | false => rfl
          | true => cases ho : ow with
            | false => exact absurd ⟨hl, ho⟩ q
            | true => rfl
        · rfl
      rcases h.step with ⟨h2, h3⟩ | h2
      · refine .inl ⟨fun v v0 v1 => by rw [he]; exact h2 v v0 v1, fun v v0 v1 hv => ?_⟩
        by_cases e : v = i
        · subst e
          have hl : L v = true := by rw [h2 v v0 i1]; exact hv
          have ho : ow = true := by
            cases hx : ow with
            | false => exact absurd ⟨hl, hx⟩ q
            | true => rfl
          obtain ⟨j, j0, j1, hj, hd⟩ := how.1 ho
          exact ⟨j, j0, j1, by rw [← h2 j j0 j1]; exact hj, hd⟩
        · exact h3 v v0 (by omega) hv
      · refine .inr ?_
        rw [pk_congr (Q := L) fun v _ _ => he v]; exact h2
theorem Rnd.done {n : Nat} {D : Int → Int → Int} {L0 L : Int → Bool} {r : Nat} (h : Rnd n D L0 L n) (h0 : (pk L0 n).length + r ≤ n ∨ ClosedS n D (fun v => L0 v = true)) : (pk L n).length + (r + 1) ≤ n ∨ ClosedS n D (fun v => L v = true) := by
  have same : (∀ v : Int, 0 ≤ v → v < n → L v = L0 v) → ClosedS n D (fun v => L0 v = true) → ClosedS n D (fun v => L v = true) := fun e hc v v0 v1 hv => by
    obtain ⟨j, j0, j1, hj, hd⟩ := hc v v0 v1 ((e v v0 v1).symm.trans hv)
    exact ⟨j, j0, j1, (e j j0 j1).trans hj, hd⟩
  rcases h0 with h0 | h0
  · rcases h.step with ⟨h2, h3⟩ | h2
    · exact .inr (same h2 fun v v0 v1 hv => h3 v v0 v1 hv)
    · exact .inl (by omega)
  · refine .inr (same (fun v v0 v1 => ?_) h0)
    cases hl : L0 v with
    | true => exact h.hold _ h0 v v0 v1 hl
    | false =>
      cases hx : L v with
      | false => rfl
      | true => have := h.sub v hx; rw [hl] at this; cases this

theorem rings_any (ao : Option Addr) (n c : Nat) (D : Int → Int → Int) (w : World) (hn : n ≤ 32)
    (h : ITab w.heap.size w ao n (fun _ => n) (fun r c => .int .i64 (D r c))) :
    Calls Try.prog 45 #[.slice ao n c] w fun e w' => (∃ b, e = .returned (.bool b) ∧ (b = true ↔ HasRing n D)) ∧ Below w.heap.size w w' := by
  obtain ⟨A, C, RB, RO, gb, go, hga, hrow, hra, hel, _⟩ := h.open
  refine calls_of_run (F := [(0, _)]) Try.func45 rfl Try.ntmps45 rfl rfl ?_
  have hO0 := Own.init w
  refine run_seq ?_
  refine run_region ?_
  refine rl_v rfl rfl rfl (ov_assign rfl rfl) ?_
  refine rl_nil ?_
  refine run_seq ?_
  refine run_region ?_
  refine rl_v rfl rfl rfl (ov_move rfl rfl) ?_
  refine rl_v rfl rfl rfl (ov_len rfl Try.underlying22 rfl) ?_
  refine rl_make (n) rfl rfl rfl rfl Try.underlying48 info_4 rfl hO0 rfl rfl (by first | rfl | omega) (by first | rfl | omega) ⟨by omega, by omega⟩ (fun b w1 hO2 hs3 => ?_)
  refine rl_v rfl rfl rfl (ov_assign rfl rfl) ?_
  refine rl_nil ?_
  refine run_seq ?_
  refine run_seq ?_
  refine run_region ?_
  refine rl_v rfl rfl rfl (ov_assign rfl rfl) ?_
  refine rl_nil ?_
  refine run_block ?_
  refine Run.keep [0, 3, 4] (F' := [(0, _), (3, _), (4, _)]) rfl ?_
  refine run_loop2 (fun (k : Int) (L : Int → Bool) => [(4, .int .i64 k)]) [0, 3] (fun (k : Int) (L : Int → Bool) (w4 : World) => 0 ≤ k ∧ k ≤ n ∧ (∀ i : Int, 0 ≤ i → i < k → L i = true) ∧ Own w.heap.size w w4 [some (vch b 4 n (fun i => .bool (L i)))]) (fun (k : Int) (L : Int → Bool) => ((n : Int) - k).toNat) (0) (fun _ => false) ?_ (And.intro (by first | with_reducible rfl | exact slot_int rfl (by first | omega) | rfl) (And.intro rfl (And.intro rfl trivial))) ?_
  · exact ⟨by omega, by omega, fun i i0 i1 => by omega, hO2⟩
  intro k L w4 hIw4 ih5
  obtain ⟨hk0, hk1, hL, hO⟩ := hIw4
  show Run _ _ _ _ [(4, _), (0, _), (3, _)] _ _
  refine run_seq ?_
  refine run_seq ?_
  refine run_region ?_
  refine rl_v rfl rfl rfl (ov_move rfl rfl) ?_
  refine rl_v rfl rfl rfl (ov_move rfl rfl) ?_
  refine rl_v rfl rfl rfl (ov_len rfl Try.underlying22 rfl) ?_
  refine rl_v rfl rfl rfl (ov_lss rfl rfl rfl) ?_
  refine rl_nil ?_
  first | refine run_cond_dec rfl (fun h1 => ?_) (fun h1 => ?_) | refine run_cond rfl (fun h1 => ?_) (fun h1 => ?_)
  · refine run_skip ?_
    refine run_seq ?_
    refine run_block ?_
    refine run_region ?_
    refine rl_v rfl rfl rfl (ov_move rfl rfl) ?_
    refine rl_v rfl rfl rfl (ov_move rfl rfl) ?_
    refine rl_v rfl rfl rfl (ov_index1 rfl Try.underlying48 (by kernel_rfl) rfl rfl ⟨by omega, by omega⟩ (by first | rfl | exact hga (by omega) | exact hra _ (by omega) (by omega) (by omega))) ?_
    first | refine rl_storeB rfl rfl rfl (by kernel_rfl) hO 0 rfl rfl ⟨by omega, by omega⟩ rfl (fun w6 hO7 hs8 => ?_)
    refine rl_nil ?_
    refine run_inBlock ?_
    refine run_region ?_
    refine rl_v rfl rfl rfl (ov_move rfl rfl) ?_
    refine rl_v rfl rfl rfl (ov_add rfl rfl rfl (by omega)) ?_
    refine rl_v rfl rfl rfl (ov_assign rfl rfl) ?_
    refine rl_nil ?_
    refine Run.use (ih5 (k + 1) (upd L k true) _ ?_ ?_) (And.intro (by first | with_reducible rfl | exact slot_int rfl (by first | omega) | rfl) (And.intro rfl (And.intro rfl trivial)))
    · first | omega | (dsimp only; omega)
    · exact ⟨by omega, by omega, fun i i0 i1 => by unfold upd; split; rfl; exact hL i i0 (by omega), hO7⟩
  · have hLn : ∀ i : Int, 0 ≤ i → i < n → L i = true := fun i i0 i1 => hL i i0 (by omega)
    refine run_exit rfl ?_
    refine run_seq ?_
    refine run_seq ?_
    refine run_region ?_
    refine rl_v rfl rfl rfl (ov_assign rfl rfl) ?_
    refine rl_nil ?_
    refine run_block ?_
    refine Run.keep [0, 3, 5] (F' := [(0, _), (3, _), (5, _)]) rfl ?_
    refine run_loop3 (fun (r : Int) (rn : Nat) (L : Int → Bool) => [(5, .int .i64 r)]) [0, 3] (fun (r : Int) (rn : Nat) (L : Int → Bool) (w9 : World) => r = rn ∧ rn ≤ n ∧ Holds' n D L ∧ ((pk L n).length + rn ≤ n ∨ ClosedS n D (fun v => L v = true)) ∧ Own w.heap.size w w9 [some (vch b 4 n (fun i => .bool (L i)))]) (fun (r : Int) (rn : Nat) (L : Int → Bool) => n - rn) (0) (0) (L) ?_ (And.intro (by first | with_reducible rfl | exact slot_int rfl (by first | omega) | rfl) (And.intro rfl (And.intro rfl trivial))) ?_
    · exact ⟨rfl, by omega, fun C hC v v0 v1 _ => hLn v v0 v1, .inl (pk_len _ _), hO⟩
    intro r rn L w9 hIw9 ih10
    obtain ⟨hr, hr1, hold, hcnt, hO⟩ := hIw9
    show Run _ _ _ _ [(5, _), (0, _), (3, _)] _ _
    refine run_seq ?_
    refine run_seq ?_
    refine run_region ?_
    refine rl_v rfl rfl rfl (ov_move rfl rfl) ?_
    refine rl_v rfl rfl rfl (ov_move rfl rfl) ?_
    refine rl_v rfl rfl rfl (ov_len rfl Try.underlying22 rfl) ?_
    refine rl_v rfl rfl rfl (ov_lss rfl rfl rfl) ?_
    refine rl_nil ?_
    first | refine run_cond_dec rfl (fun h2 => ?_) (fun h2 => ?_) | refine run_cond rfl (fun h2 => ?_) (fun h2 => ?_)
    · refine run_skip ?_
      refine run_seq ?_
      refine run_block ?_
      refine run_seq ?_
      refine run_region ?_
      refine rl_v rfl rfl rfl (ov_assign rfl rfl) ?_
      refine rl_nil ?_
      refine run_block ?_
      refine Run.keep [0, 3, 5, 6] (F' := [(0, _), (3, _), (5, _), (6, _)]) rfl ?_
      refine run_loop2 (fun (i : Int) (L1 : Int → Bool) => [(6, .int .i64 i)]) [0, 3, 5] (fun (i : Int) (L1 : Int → Bool) (w11 : World) => 0 ≤ i ∧ i ≤ n ∧ Rnd n D L L1 i ∧ Own w.heap.size w w11 [some (vch b 4 n (fun i => .bool (L1 i)))]) (fun (i : Int) (L1 : Int → Bool) => ((n : Int) - i).toNat) (0) (L) ?_ (And.intro (by first | with_reducible rfl | exact slot_int rfl (by first | omega) | rfl) (And.intro rfl (And.intro rfl (And.intro rfl trivial)))) ?_
      · exact ⟨by omega, by omega, Rnd.start hold, hO⟩
      intro i L1 w11 hIw11 ih12
      obtain ⟨hi0, hi1, hR, hO2⟩ := hIw11
      show Run _ _ _ _ [(6, _), (0, _), (3, _), (5, _)] _ _
      refine run_seq ?_
      refine run_seq ?_
      refine run_region ?_
      refine rl_v rfl rfl rfl (ov_move rfl rfl) ?_
      refine rl_v rfl rfl rfl (ov_move rfl rfl) ?_
      refine rl_v rfl rfl rfl (ov_len rfl Try.underlying22 rfl) ?_
      refine rl_v rfl rfl rfl (ov_lss rfl rfl rfl) ?_
      refine rl_nil ?_
      first | refine run_cond_dec rfl (fun h3 => ?_) (fun h3 => ?_) | refine run_cond rfl (fun h3 => ?_) (fun h3 => ?_)
      · refine run_skip ?_
        refine run_seq ?_
        refine run_block ?_
        refine run_seq ?_
        refine run_region ?_
        refine rl_v rfl rfl rfl (ov_assign rfl rfl) ?_
        refine rl_nil ?_
        refine run_seq ?_
        refine run_seq ?_
        refine run_region ?_
        refine rl_v rfl rfl rfl (ov_assign rfl rfl) ?_
        refine rl_nil ?_
        refine run_block ?_
        refine Run.keep [0, 3, 5, 6, 7, 8] (F' := [(0, _), (3, _), (5, _), (6, _), (7, _), (8, _)]) rfl ?_
        refine run_loop2 (fun (k : Int) (ow : Bool) => [(8, .int .i64 k), (7, .bool ow)]) [0, 3, 5, 6] (fun (k : Int) (ow : Bool) (w13 : World) => 0 ≤ k ∧ k ≤ n ∧ (ow = true ↔ ∃ j : Int, 0 ≤ j ∧ j < k ∧ L1 j = true ∧ 0 < D i j) ∧ Own w.heap.size w w13 [some (vch b 4 n (fun i => .bool (L1 i)))]) (fun (k : Int) (ow : Bool) => ((n : Int) - k).toNat) (0) (false) ?_ (And.intro (by first | with_reducible rfl | exact slot_int rfl (by first | omega) | rfl) (And.intro (by first | with_reducible rfl | rfl) (And.intro rfl (And.intro rfl (And.intro rfl (And.intro rfl trivial)))))) ?_
        · exact ⟨by omega, by omega, ⟨fun h => Bool.noConfusion h, fun ⟨j, j0, j1, _⟩ => by omega⟩, hO2⟩
        intro k ow w13 hIw13 ih14
        obtain ⟨hk0, hk1, how, hO3⟩ := hIw13
        show Run _ _ _ _ [(8, _), (7, _), (0, _), (3, _), (5, _), (6, _)] _ _
        refine run_seq ?_
        refine run_seq ?_
        refine run_region ?_
        refine rl_v rfl rfl rfl (ov_move rfl rfl) ?_
        refine rl_v rfl rfl rfl (ov_move rfl rfl) ?_
        refine rl_v rfl rfl rfl (ov_len rfl Try.underlying22 rfl) ?_
        refine rl_v rfl rfl rfl (ov_lss rfl rfl rfl) ?_
        refine rl_nil ?_
        first | refine run_cond_dec rfl (fun h4 => ?_) (fun h4 => ?_) | refine run_cond rfl (fun h4 => ?_) (fun h4 => ?_)
        · refine run_skip ?_
          refine run_seq ?_
          refine run_block ?_
          refine run_region ?_
          refine rl_v rfl rfl rfl (ov_move rfl rfl) ?_
          refine rl_v rfl rfl rfl (ov_move rfl rfl) ?_
          first | refine rl_split_dec 41 rfl (fun g1 => ?_) (fun g1 => ?_) | refine rl_split 41 rfl (fun g1 => ?_) (fun g1 => ?_)
          · refine rl_gskip rfl rfl rfl rfl rfl rfl ?_
            refine rl_gskip rfl rfl rfl rfl rfl rfl ?_
            refine rl_gskip rfl rfl rfl rfl rfl rfl ?_
            refine rl_gskip rfl rfl rfl rfl rfl rfl ?_
            refine rl_gskip rfl rfl rfl rfl rfl rfl ?_
            refine rl_gundef rfl rfl rfl rfl rfl ?_
            refine rl_gundef rfl rfl rfl rfl rfl ?_
            refine rl_gundef rfl rfl rfl rfl rfl ?_
            refine rl_gundef rfl rfl rfl rfl rfl ?_
            refine rl_gundef rfl rfl rfl rfl rfl ?_
            refine rl_gundef rfl rfl rfl rfl rfl ?_
            refine rl_gundef rfl rfl rfl rfl rfl ?_
            refine rl_gundef rfl rfl rfl rfl rfl ?_
            refine rl_gskip rfl rfl rfl rfl rfl rfl ?_
            refine rl_v rfl rfl rfl (ov_pick_t rfl rfl rfl) ?_
            refine rl_v rfl rfl rfl (ov_assign rfl rfl) ?_
            refine rl_nil ?_
            refine run_inBlock ?_
            refine run_region ?_
            refine rl_v rfl rfl rfl (ov_move rfl rfl) ?_
            refine rl_v rfl rfl rfl (ov_add rfl rfl rfl (by omega)) ?_
            refine rl_v rfl rfl rfl (ov_assign rfl rfl) ?_
            refine rl_nil ?_
            refine Run.use (ih14 (k + 1) (true) _ ?_ ?_) (And.intro (by first | with_reducible rfl | exact slot_int rfl (by first | omega) | rfl) (And.intro (by first | with_reducible rfl | rfl) (And.intro rfl (And.intro rfl (And.intro rfl (And.intro rfl trivial))))))
            · first | omega | (dsimp only; omega)
            · exact ⟨by omega, by omega, ⟨fun _ => by obtain ⟨j, j0, j1, e⟩ := how.1 g1; exact ⟨j, j0, by omega, e⟩, fun _ => rfl⟩, hO3⟩
          · have hnow : ¬ ∃ j : Int, 0 ≤ j ∧ j < k ∧ L1 j = true ∧ 0 < D i j := fun hx => by rw [how.2 hx] at g1; cases g1
            refine rl_gv rfl rfl rfl rfl rfl (ov_move rfl rfl) ?_
            refine rl_gv rfl rfl rfl rfl rfl (ov_move rfl rfl) ?_
            refine rl_gv rfl rfl rfl rfl rfl (ov_index1 rfl Try.underlying48 (by kernel_rfl) rfl rfl ⟨by omega, by omega⟩ (by first | rfl | exact hga (by omega) | exact hra _ (by omega) (by omega) (by omega))) ?_
            refine rl_gv rfl rfl rfl rfl rfl (ov_load rfl Try.underlying4 rfl rfl (by first | exact hrow _ hO3.below _ (by omega) (by omega) | exact hel _ hO3.below _ (by omega) (by omega) _ (by omega) (by omega) | exact hO3.cellI 0 rfl _ (by omega) (by omega) | exact hO3.cellL 0 rfl rfl | exact hO3.cellI 1 rfl _ (by omega) (by omega) | exact hO3.cellL 1 rfl rfl | exact hO3.cellI 2 rfl _ (by omega) (by omega) | exact hO3.cellL 2 rfl rfl | exact hO3.cellI 3 rfl _ (by omega) (by omega) | exact hO3.cellL 3 rfl rfl | exact hO3.cellI 4 rfl _ (by omega) (by omega) | exact hO3.cellL 4 rfl rfl | exact hO3.cellI 5 rfl _ (by omega) (by omega) | exact hO3.cellL 5 rfl rfl)) ?_
            refine rl_gv rfl rfl rfl rfl rfl (ov_move rfl rfl) ?_
            first | refine rl_split_dec 46 rfl (fun g2 => ?_) (fun g2 => ?_) | refine rl_split 46 rfl (fun g2 => ?_) (fun g2 => ?_)
            · refine rl_gv rfl rfl rfl rfl rfl (ov_move rfl rfl) ?_
              refine rl_gv rfl rfl rfl rfl rfl (ov_move rfl rfl) ?_
              refine rl_gv rfl rfl rfl rfl rfl (ov_index1 rfl Try.underlying22 (by kernel_rfl) rfl rfl ⟨by omega, by omega⟩ (by first | rfl | exact hga (by omega) | exact hra _ (by omega) (by omega) (by omega))) ?_
              refine rl_gv rfl rfl rfl rfl rfl (ov_load rfl Try.underlying23 rfl rfl (by first | exact hrow _ hO3.below _ (by omega) (by omega) | exact hel _ hO3.below _ (by omega) (by omega) _ (by omega) (by omega) | exact hO3.cellI 0 rfl _ (by omega) (by omega) | exact hO3.cellL 0 rfl rfl | exact hO3.cellI 1 rfl _ (by omega) (by omega) | exact hO3.cellL 1 rfl rfl | exact hO3.cellI 2 rfl _ (by omega) (by omega) | exact hO3.cellL 2 rfl rfl | exact hO3.cellI 3 rfl _ (by omega) (by omega) | exact hO3.cellL 3 rfl rfl | exact hO3.cellI 4 rfl _ (by omega) (by omega) | exact hO3.cellL 4 rfl rfl | exact hO3.cellI 5 rfl _ (by omega) (by omega) | exact hO3.cellL 5 rfl rfl)) ?_
              refine rl_gv rfl rfl rfl rfl rfl (ov_move rfl rfl) ?_
              refine rl_gv rfl rfl rfl rfl rfl (ov_index1 rfl Try.underlying23 (by kernel_rfl) rfl rfl ⟨by omega, by omega⟩ (by first | rfl | exact hga (by omega) | exact hra _ (by omega) (by omega) (by omega))) ?_
              refine rl_gv rfl rfl rfl rfl rfl (ov_load rfl Try.underlying2 rfl rfl (by first | exact hrow _ hO3.below _ (by omega) (by omega) | exact hel _ hO3.below _ (by omega) (by omega) _ (by omega) (by omega) | exact hO3.cellI 0 rfl _ (by omega) (by omega) | exact hO3.cellL 0 rfl rfl | exact hO3.cellI 1 rfl _ (by omega) (by omega) | exact hO3.cellL 1 rfl rfl | exact hO3.cellI 2 rfl _ (by omega) (by omega) | exact hO3.cellL 2 rfl rfl | exact hO3.cellI 3 rfl _ (by omega) (by omega) | exact hO3.cellL 3 rfl rfl | exact hO3.cellI 4 rfl _ (by omega) (by omega) | exact hO3.cellL 4 rfl rfl | exact hO3.cellI 5 rfl _ (by omega) (by omega) | exact hO3.cellL 5 rfl rfl)) ?_
              refine rl_gv rfl rfl rfl rfl rfl (ov_gtr rfl rfl rfl) ?_
              refine rl_gv rfl rfl rfl rfl rfl (ov_pick_t rfl rfl rfl) ?_
              refine rl_v rfl rfl rfl (ov_pick_f rfl rfl rfl) ?_
              refine rl_v rfl rfl rfl (ov_assign rfl rfl) ?_
              refine rl_nil ?_
              refine run_inBlock ?_
              refine run_region ?_
              refine rl_v rfl rfl rfl (ov_move rfl rfl) ?_
              refine rl_v rfl rfl rfl (ov_add rfl rfl rfl (by omega)) ?_
              refine rl_v rfl rfl rfl (ov_assign rfl rfl) ?_
              refine rl_nil ?_
              refine Run.use (ih14 (k + 1) (decide (D i k > 0)) _ ?_ ?_) (And.intro (by first | with_reducible rfl | exact slot_int rfl (by first | omega) | rfl) (And.intro (by first | with_reducible rfl | rfl) (And.intro rfl (And.intro rfl (And.intro rfl (And.intro rfl trivial))))))
              · first | omega | (dsimp only; omega)
              · exact ⟨by omega, by omega, ⟨fun hd => ⟨k, hk0, by omega, g2, of_decide_eq_true hd⟩, fun ⟨j, j0, j1, e1, e2⟩ => decide_eq_true ((by omega : j = k ∨ j < k).elim (fun e => by rw [e] at e2; exact e2) (fun e => absurd ⟨j, j0, e, e1, e2⟩ hnow))⟩, hO3⟩
            · have hnow : ¬ ∃ j : Int, 0 ≤ j ∧ j < k ∧ L1 j = true ∧ 0 < D i j := fun hx => by rw [how.2 hx] at g1; cases g1
              refine rl_gskip rfl rfl rfl rfl rfl rfl ?_
              refine rl_gskip rfl rfl rfl rfl rfl rfl ?_
              refine rl_gskip rfl rfl rfl rfl rfl rfl ?_
              refine rl_gskip rfl rfl rfl rfl rfl rfl ?_
              refine rl_gskip rfl rfl rfl rfl rfl rfl ?_
              refine rl_gskip rfl rfl rfl rfl rfl rfl ?_
              refine rl_gskip rfl rfl rfl rfl rfl rfl ?_
              refine rl_gskip rfl rfl rfl rfl rfl rfl ?_
              refine rl_gv rfl rfl rfl rfl rfl (ov_pick_f rfl rfl rfl) ?_
              refine rl_v rfl rfl rfl (ov_pick_f rfl rfl rfl) ?_
              refine rl_v rfl rfl rfl (ov_assign rfl rfl) ?_
              refine rl_nil ?_
              refine run_inBlock ?_
              refine run_region ?_
              refine rl_v rfl rfl rfl (ov_move rfl rfl) ?_
              refine rl_v rfl rfl rfl (ov_add rfl rfl rfl (by omega)) ?_
              refine rl_v rfl rfl rfl (ov_assign rfl rfl) ?_
              refine rl_nil ?_
              refine Run.use (ih14 (k + 1) (false) _ ?_ ?_) (And.intro (by first | with_reducible rfl | exact slot_int rfl (by first | omega) | rfl) (And.intro (by first | with_reducible rfl | rfl) (And.intro rfl (And.intro rfl (And.intro rfl (And.intro rfl trivial))))))
              · first | omega | (dsimp only; omega)
              · exact ⟨by omega, by omega, ⟨fun h => Bool.noConfusion h, fun ⟨j, j0, j1, e1, e2⟩ => (by omega : j = k ∨ j < k).elim (fun e => by rw [e, g2] at e1; cases e1) (fun e => absurd ⟨j, j0, e, e1, e2⟩ hnow)⟩, hO3⟩
        · have hkn : k = n := by omega
          subst hkn
          refine run_exit rfl ?_
          refine run_region ?_
          refine rl_v rfl rfl rfl (ov_move rfl rfl) ?_
          refine rl_v rfl rfl rfl (ov_move rfl rfl) ?_
          refine rl_v rfl rfl rfl (ov_move rfl rfl) ?_
          refine rl_v rfl rfl rfl (ov_move rfl rfl) ?_
          refine rl_v rfl rfl rfl (ov_index1 rfl Try.underlying48 (by kernel_rfl) rfl rfl ⟨by omega, by omega⟩ (by first | rfl | exact hga (by omega) | exact hra _ (by omega) (by omega) (by omega))) ?_
          refine rl_v rfl rfl rfl (ov_load rfl Try.underlying4 rfl rfl (by first | exact hrow _ hO3.below _ (by omega) (by omega) | exact hel _ hO3.below _ (by omega) (by omega) _ (by omega) (by omega) | exact hO3.cellI 0 rfl _ (by omega) (by omega) | exact hO3.cellL 0 rfl rfl | exact hO3.cellI 1 rfl _ (by omega) (by omega) | exact hO3.cellL 1 rfl rfl | exact hO3.cellI 2 rfl _ (by omega) (by omega) | exact hO3.cellL 2 rfl rfl | exact hO3.cellI 3 rfl _ (by omega) (by omega) | exact hO3.cellL 3 rfl rfl | exact hO3.cellI 4 rfl _ (by omega) (by omega) | exact hO3.cellL 4 rfl rfl | exact hO3.cellI 5 rfl _ (by omega) (by omega) | exact hO3.cellL 5 rfl rfl)) ?_
          refine rl_v rfl rfl rfl (ov_move rfl rfl) ?_
          first | refine rl_split_dec 63 rfl (fun g3 => ?_) (fun g3 => ?_) | refine rl_split 63 rfl (fun g3 => ?_) (fun g3 => ?_)
          · refine rl_gv rfl rfl rfl rfl rfl (ov_move rfl rfl) ?_
            refine rl_v rfl rfl rfl (ov_pick_t rfl rfl rfl) ?_
            refine rl_v rfl rfl rfl (ov_index1 rfl Try.underlying48 (by kernel_rfl) rfl rfl ⟨by omega, by omega⟩ (by first | rfl | exact hga (by omega) | exact hra _ (by omega) (by omega) (by omega))) ?_
            first | refine rl_storeB rfl rfl rfl (by kernel_rfl) hO3 0 rfl rfl ⟨by omega, by omega⟩ rfl (fun w18 hO19 hs20 => ?_)
            refine rl_nil ?_
            refine run_inBlock ?_
            refine run_region ?_
            refine rl_v rfl rfl rfl (ov_move rfl rfl) ?_
            refine rl_v rfl rfl rfl (ov_add rfl rfl rfl (by omega)) ?_
            refine rl_v rfl rfl rfl (ov_assign rfl rfl) ?_
            refine rl_nil ?_
            refine Run.use (ih12 (i + 1) (upd L1 i ow) _ ?_ ?_) (And.intro (by first | with_reducible rfl | exact slot_int rfl (by first | omega) | rfl) (And.intro rfl (And.intro rfl (And.intro rfl trivial))))
            · first | omega | (dsimp only; omega)
            · exact ⟨by omega, by omega, hR.next hi0 h3 how (by rw [g3]; rfl), hO19⟩
          · refine rl_gskip rfl rfl rfl rfl rfl rfl ?_
            refine rl_v rfl rfl rfl (ov_pick_f rfl rfl rfl) ?_
            refine rl_v rfl rfl rfl (ov_index1 rfl Try.underlying48 (by kernel_rfl) rfl rfl ⟨by omega, by omega⟩ (by first | rfl | exact hga (by omega) | exact hra _ (by omega) (by omega) (by omega))) ?_
            first | refine rl_storeB rfl rfl rfl (by kernel_rfl) hO3 0 rfl rfl ⟨by omega, by omega⟩ rfl (fun w21 hO22 hs23 => ?_)
            refine rl_nil ?_
            refine run_inBlock ?_
            refine run_region ?_
            refine rl_v rfl rfl rfl (ov_move rfl rfl) ?_
            refine rl_v rfl rfl rfl (ov_add rfl rfl rfl (by omega)) ?_
            refine rl_v rfl rfl rfl (ov_assign rfl rfl) ?_
            refine rl_nil ?_
            refine Run.use (ih12 (i + 1) (upd L1 i false) _ ?_ ?_) (And.intro (by first | with_reducible rfl | exact slot_int rfl (by first | omega) | rfl) (And.intro rfl (And.intro rfl (And.intro rfl trivial))))
            · first | omega | (dsimp only; omega)
            · exact ⟨by omega, by omega, hR.next hi0 h3 how (by rw [g3]; rfl), hO22⟩
      · have hin : i = n := by omega
        subst hin
        refine run_exit rfl ?_
        refine run_inBlock ?_
        refine run_region ?_
        refine rl_v rfl rfl rfl (ov_move rfl rfl) ?_
        refine rl_v rfl rfl rfl (ov_add rfl rfl rfl (by omega)) ?_
        refine rl_v rfl rfl rfl (ov_assign rfl rfl) ?_
        refine rl_nil ?_
        refine Run.use (ih10 (r + 1) (rn + 1) (L1) _ ?_ ?_) (And.intro (by first | with_reducible rfl | exact slot_int rfl (by first | omega) | rfl) (And.intro rfl (And.intro rfl trivial)))
        · first | omega | (dsimp only; omega)
        · exact ⟨by omega, by omega, hR.hold, hR.done hcnt, hO2⟩
    · have hrn : rn = n := by omega
      refine run_exit rfl ?_
      refine run_seq ?_
      refine run_seq ?_
      refine run_region ?_
      refine rl_v rfl rfl rfl (ov_assign rfl rfl) ?_
      refine rl_nil ?_
      refine run_block ?_
      refine Run.keep [0, 3, 9] (F' := [(0, _), (3, _), (9, _)]) rfl ?_
      refine run_loop1 (fun (k : Int) => [(9, .int .i64 k)]) [0, 3] (fun (k : Int) (w24 : World) => 0 ≤ k ∧ k ≤ n ∧ (∀ v : Int, 0 ≤ v → v < k → L v = false) ∧ Own w.heap.size w w24 [some (vch b 4 n (fun i => .bool (L i)))]) (fun (k : Int) => ((n : Int) - k).toNat) (0) ?_ (And.intro (by first | with_reducible rfl | exact slot_int rfl (by first | omega) | rfl) (And.intro rfl (And.intro rfl trivial))) ?_
      · exact ⟨by omega, by omega, fun v v0 v1 => by omega, hO⟩
      intro k w24 hIw24 ih25
      obtain ⟨hk0, hk1, hno, hO⟩ := hIw24
      show Run _ _ _ _ [(9, _), (0, _), (3, _)] _ _
      refine run_seq ?_
      refine run_seq ?_
      refine run_region ?_
      refine rl_v rfl rfl rfl (ov_move rfl rfl) ?_
      refine rl_v rfl rfl rfl (ov_move rfl rfl) ?_
      refine rl_v rfl rfl rfl (ov_len rfl Try.underlying22 rfl) ?_
      refine rl_v rfl rfl rfl (ov_lss rfl rfl rfl) ?_
      refine rl_nil ?_
      first | refine run_cond_dec rfl (fun h5 => ?_) (fun h5 => ?_) | refine run_cond rfl (fun h5 => ?_) (fun h5 => ?_)
      · refine run_skip ?_
        refine run_seq ?_
        refine run_block ?_
        refine run_seq ?_
        refine run_region ?_
        refine rl_v rfl rfl rfl (ov_move rfl rfl) ?_
        refine rl_v rfl rfl rfl (ov_move rfl rfl) ?_
        refine rl_v rfl rfl rfl (ov_index1 rfl Try.underlying48 (by kernel_rfl) rfl rfl ⟨by omega, by omega⟩ (by first | rfl | exact hga (by omega) | exact hra _ (by omega) (by omega) (by omega))) ?_
        refine rl_v rfl rfl rfl (ov_load rfl Try.underlying4 rfl rfl (by first | exact hrow _ hO.below _ (by omega) (by omega) | exact hel _ hO.below _ (by omega) (by omega) _ (by omega) (by omega) | exact hO.cellI 0 rfl _ (by omega) (by omega) | exact hO.cellL 0 rfl rfl | exact hO.cellI 1 rfl _ (by omega) (by omega) | exact hO.cellL 1 rfl rfl | exact hO.cellI 2 rfl _ (by omega) (by omega) | exact hO.cellL 2 rfl rfl | exact hO.cellI 3 rfl _ (by omega) (by omega) | exact hO.cellL 3 rfl rfl | exact hO.cellI 4 rfl _ (by omega) (by omega) | exact hO.cellL 4 rfl rfl | exact hO.cellI 5 rfl _ (by omega) (by omega) | exact hO.cellL 5 rfl rfl)) ?_
        refine rl_nil ?_
        first | refine run_cond_dec rfl (fun h6 => ?_) (fun h6 => ?_) | refine run_cond rfl (fun h6 => ?_) (fun h6 => ?_)
        · have hcl : ClosedS n D (fun v => L v = true) := hcnt.resolve_left fun hx => by
            have hm : k ∈ pk L n := pk_mem.2 ⟨hk0, h5, h6⟩
            have := List.length_pos_of_mem hm
            omega
          refine run_seq ?_
          refine run_region ?_
          refine rl_v rfl rfl rfl (ov_assign rfl rfl) ?_
          refine rl_nil ?_
          refine run_ret Try.func45 (res1 Try.results45 rfl) ?_
          exact ⟨⟨true, rfl, ⟨fun _ => ⟨fun v => L v = true, ⟨k, hk0, h5, h6⟩, hcl⟩, fun _ => rfl⟩⟩, hO.below⟩
        · refine run_skip ?_
          refine run_inBlock ?_
          refine run_region ?_
          refine rl_v rfl rfl rfl (ov_move rfl rfl) ?_
          refine rl_v rfl rfl rfl (ov_add rfl rfl rfl (by omega)) ?_
          refine rl_v rfl rfl rfl (ov_assign rfl rfl) ?_
          refine rl_nil ?_
          refine Run.use (ih25 _ _ ?_ ?_) (And.intro (by first | with_reducible rfl | exact slot_int rfl (by first | omega) | rfl) (And.intro rfl (And.intro rfl trivial)))
          · first | omega | (dsimp only; omega)
          · exact ⟨by omega, by omega, fun v v0 v1 => (by omega : v = k ∨ v < k).elim (fun e => by rw [e]; exact h6) (fun e => hno v v0 e), hO⟩
      · refine run_exit rfl ?_
        refine run_seq ?_
        refine run_region ?_
        refine rl_v rfl rfl rfl (ov_assign rfl rfl) ?_
        refine rl_nil ?_
        refine run_ret Try.func45 (res1 Try.results45 rfl) ?_
        exact ⟨⟨false, rfl, ⟨fun h => Bool.noConfusion h, fun ⟨T, ⟨v, v0, v1, hv⟩, hT⟩ => by have := hold T hT v v0 v1 hv; rw [hno v v0 (by omega)] at this; cases this⟩⟩, hO.below⟩
end Go.Proofs.Ytiambddcpflkhaa
