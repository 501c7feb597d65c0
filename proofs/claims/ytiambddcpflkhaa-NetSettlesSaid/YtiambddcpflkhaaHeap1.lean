/- Heaps: the methods of a pile. -/
import Derived.Test.YtiambddcpflkhaaHeap0
import Derived.Test.YtiambddcpflkhaaLaw0
set_option maxRecDepth 100000
namespace Go.Proofs.Ytiambddcpflkhaa
open Go.RowKit Go.Proofs

def hpG (P A : Int → Int) : Int → List Value := fun k => [.int .i64 (P k), .int .i64 (A k)]

theorem ov_quoT {P : Program} {N : Nat} {o : Oper} {F : Fr} {w : World} {T U : TypeId} {x y : Operand} {m n : Int} (ho : o.op = .binOp .quo T x y U) (hx : Fr.ev F x = some (.int .i64 m)) (hy : Fr.ev F y = some (.int .i64 n)) (hm : -1 ≤ m ∧ m ≤ 9223372036854775807) (hn : 2 ≤ n) : OpV P N o F w (.int .i64 (max 0 m / n)) := by
  refine ov_bin ho hx hy ?_
  have h1 : m.tdiv n = max 0 m / n := by
    by_cases h : 0 ≤ m
    · rw [show max 0 m = m by omega]; exact Int.tdiv_eq_ediv_of_nonneg h
    · rw [show m = -1 by omega, show max (0 : Int) (-1) = 0 by decide, Int.zero_ediv, Int.neg_tdiv, Int.tdiv_eq_ediv_of_nonneg (by omega), Int.ediv_eq_zero_of_lt (by omega) (by omega)]; rfl
  have h2 : max 0 m / n ≤ max 0 m := Int.ediv_le_self _ (by omega)
  have h3 : 0 ≤ max 0 m / n := Int.ediv_nonneg (by omega) (by omega)
  simp [binOp, Op.intDiv, show n ≠ 0 by omega, h1, IntWalk.i64_in (max 0 m / n) (by omega)]

theorem less_sh (ao : Option Addr) (n cap : Nat) (P A : Int → Int) (i j : Int) (w : World) (i0 : 0 ≤ i) (i1 : i < n) (j0 : 0 ≤ j) (j1 : j < n) (h : SAt w.heap.size w ao 2 n (hpG P A)) :
    Calls Try.prog 117 #[.slice ao n cap, .int .i64 i, .int .i64 j] w fun e w' => (∃ b, e = .returned (.bool b) ∧ (b = true ↔ bf P A i j)) ∧ Below w.heap.size w w' := by
  obtain ⟨gb, go, hga, hrow⟩ := h.open (by omega)
  refine calls_of_run (F := [(0, _), (1, _), (2, _)]) Try.func117 rfl Try.ntmps117 rfl rfl ?_
  have hO0 := Own.init w
  refine run_seq ?_
  refine run_region ?_
  refine rl_v rfl rfl rfl (ov_assign rfl rfl) ?_
  refine rl_nil ?_
  refine run_seq ?_
  refine run_quiet mixed (by kernel_rfl) ?_
  refine rq_v rfl rfl rfl (fun _ => ov_move rfl rfl) ?_
  refine rq_v rfl rfl rfl (fun _ => ov_move rfl rfl) ?_
  refine rq_v rfl rfl rfl (fun _ => ov_index rfl Try.underlying116 (by kernel_rfl) (s := 2) rfl rfl ⟨by omega, by omega⟩ (by first | rfl | exact hga (by omega))) ?_
  refine rq_v rfl rfl rfl (fun _ => ov_fieldS rfl Try.underlying121 rfl (fo := 1) rfl (by kernel_rfl) rfl) ?_
  refine rq_v rfl rfl rfl (fun _ => ov_load rfl Try.underlying2 rfl rfl (by show World.cell? w _ = _; first | exact hrow _ hO0.below _ (by omega) (by omega) _ (by omega) | exact hO0.cellI 0 rfl _ (by omega) (by omega) | exact hO0.cellL 0 rfl rfl | exact hO0.cellI 1 rfl _ (by omega) (by omega) | exact hO0.cellL 1 rfl rfl | exact hO0.cellI 2 rfl _ (by omega) (by omega) | exact hO0.cellL 2 rfl rfl | exact hO0.cellI 3 rfl _ (by omega) (by omega) | exact hO0.cellL 3 rfl rfl | exact hO0.cellI 4 rfl _ (by omega) (by omega) | exact hO0.cellL 4 rfl rfl | exact hO0.cellI 5 rfl _ (by omega) (by omega) | exact hO0.cellL 5 rfl rfl)) ?_
  refine rq_v rfl rfl rfl (fun _ => ov_move rfl rfl) ?_
  refine rq_v rfl rfl rfl (fun _ => ov_move rfl rfl) ?_
  refine rq_v rfl rfl rfl (fun _ => ov_index rfl Try.underlying116 (by kernel_rfl) (s := 2) rfl rfl ⟨by omega, by omega⟩ (by first | rfl | exact hga (by omega))) ?_
  refine rq_v rfl rfl rfl (fun _ => ov_fieldS rfl Try.underlying121 rfl (fo := 1) rfl (by kernel_rfl) rfl) ?_
  refine rq_v rfl rfl rfl (fun _ => ov_load rfl Try.underlying2 rfl rfl (by show World.cell? w _ = _; first | exact hrow _ hO0.below _ (by omega) (by omega) _ (by omega) | exact hO0.cellI 0 rfl _ (by omega) (by omega) | exact hO0.cellL 0 rfl rfl | exact hO0.cellI 1 rfl _ (by omega) (by omega) | exact hO0.cellL 1 rfl rfl | exact hO0.cellI 2 rfl _ (by omega) (by omega) | exact hO0.cellL 2 rfl rfl | exact hO0.cellI 3 rfl _ (by omega) (by omega) | exact hO0.cellL 3 rfl rfl | exact hO0.cellI 4 rfl _ (by omega) (by omega) | exact hO0.cellL 4 rfl rfl | exact hO0.cellI 5 rfl _ (by omega) (by omega) | exact hO0.cellL 5 rfl rfl)) ?_
  refine rq_v rfl rfl rfl (fun _ => ov_gtr rfl rfl rfl) ?_
  refine rq_v rfl rfl rfl (fun _ => ov_move rfl rfl) ?_
  first | refine rq_split_dec 18 rfl (fun g1 => ?_) (fun g1 => ?_) | refine rq_split 18 rfl (fun g1 => ?_) (fun g1 => ?_)
  · refine rq_gskip rfl rfl rfl rfl rfl rfl ?_
    refine rq_gskip rfl rfl rfl rfl rfl rfl ?_
    refine rq_gskip rfl rfl rfl rfl rfl rfl ?_
    refine rq_gskip rfl rfl rfl rfl rfl rfl ?_
    refine rq_gskip rfl rfl rfl rfl rfl rfl ?_
    refine rq_gskip rfl rfl rfl rfl rfl rfl ?_
    refine rq_gskip rfl rfl rfl rfl rfl rfl ?_
    refine rq_gskip rfl rfl rfl rfl rfl rfl ?_
    refine rq_gskip rfl rfl rfl rfl rfl rfl ?_
    refine rq_gskip rfl rfl rfl rfl rfl rfl ?_
    refine rq_gskip rfl rfl rfl rfl rfl rfl ?_
    refine rq_gskip rfl rfl rfl rfl rfl rfl ?_
    refine rq_gundef rfl rfl rfl rfl rfl ?_
    refine rq_gundef rfl rfl rfl rfl rfl ?_
    refine rq_gundef rfl rfl rfl rfl rfl ?_
    refine rq_gundef rfl rfl rfl rfl rfl ?_
    refine rq_gundef rfl rfl rfl rfl rfl ?_
    refine rq_gundef rfl rfl rfl rfl rfl ?_
    refine rq_gundef rfl rfl rfl rfl rfl ?_
    refine rq_gundef rfl rfl rfl rfl rfl ?_
    refine rq_gundef rfl rfl rfl rfl rfl ?_
    refine rq_gundef rfl rfl rfl rfl rfl ?_
    refine rq_gundef rfl rfl rfl rfl rfl ?_
    refine rq_gskip rfl rfl rfl rfl rfl rfl ?_
    refine rq_v rfl rfl rfl (fun _ => ov_pick_t rfl rfl rfl) ?_
    refine rq_v rfl rfl rfl (fun _ => ov_assign rfl rfl) ?_
    refine rq_nil (fun n2 => ?_)
    have hO4 := hO0.drewN n2
    generalize World.drewN w n2 = w3 at hO4 ⊢
    refine run_ret Try.func117 (res1 Try.results117 rfl) ?_
    exact ⟨⟨true, rfl, ⟨fun _ => .inl g1, fun _ => rfl⟩⟩, hO4.below⟩
  · refine rq_gv rfl rfl rfl rfl rfl (fun _ => ov_move rfl rfl) ?_
    refine rq_gv rfl rfl rfl rfl rfl (fun _ => ov_move rfl rfl) ?_
    refine rq_gv rfl rfl rfl rfl rfl (fun _ => ov_index rfl Try.underlying116 (by kernel_rfl) (s := 2) rfl rfl ⟨by omega, by omega⟩ (by first | rfl | exact hga (by omega))) ?_
    refine rq_gv rfl rfl rfl rfl rfl (fun _ => ov_fieldS rfl Try.underlying121 rfl (fo := 1) rfl (by kernel_rfl) rfl) ?_
    refine rq_gv rfl rfl rfl rfl rfl (fun _ => ov_load rfl Try.underlying2 rfl rfl (by show World.cell? w _ = _; first | exact hrow _ hO0.below _ (by omega) (by omega) _ (by omega) | exact hO0.cellI 0 rfl _ (by omega) (by omega) | exact hO0.cellL 0 rfl rfl | exact hO0.cellI 1 rfl _ (by omega) (by omega) | exact hO0.cellL 1 rfl rfl | exact hO0.cellI 2 rfl _ (by omega) (by omega) | exact hO0.cellL 2 rfl rfl | exact hO0.cellI 3 rfl _ (by omega) (by omega) | exact hO0.cellL 3 rfl rfl | exact hO0.cellI 4 rfl _ (by omega) (by omega) | exact hO0.cellL 4 rfl rfl | exact hO0.cellI 5 rfl _ (by omega) (by omega) | exact hO0.cellL 5 rfl rfl)) ?_
    refine rq_gv rfl rfl rfl rfl rfl (fun _ => ov_move rfl rfl) ?_
    refine rq_gv rfl rfl rfl rfl rfl (fun _ => ov_move rfl rfl) ?_
    refine rq_gv rfl rfl rfl rfl rfl (fun _ => ov_index rfl Try.underlying116 (by kernel_rfl) (s := 2) rfl rfl ⟨by omega, by omega⟩ (by first | rfl | exact hga (by omega))) ?_
    refine rq_gv rfl rfl rfl rfl rfl (fun _ => ov_fieldS rfl Try.underlying121 rfl (fo := 1) rfl (by kernel_rfl) rfl) ?_
    refine rq_gv rfl rfl rfl rfl rfl (fun _ => ov_load rfl Try.underlying2 rfl rfl (by show World.cell? w _ = _; first | exact hrow _ hO0.below _ (by omega) (by omega) _ (by omega) | exact hO0.cellI 0 rfl _ (by omega) (by omega) | exact hO0.cellL 0 rfl rfl | exact hO0.cellI 1 rfl _ (by omega) (by omega) | exact hO0.cellL 1 rfl rfl | exact hO0.cellI 2 rfl _ (by omega) (by omega) | exact hO0.cellL 2 rfl rfl | exact hO0.cellI 3 rfl _ (by omega) (by omega) | exact hO0.cellL 3 rfl rfl | exact hO0.cellI 4 rfl _ (by omega) (by omega) | exact hO0.cellL 4 rfl rfl | exact hO0.cellI 5 rfl _ (by omega) (by omega) | exact hO0.cellL 5 rfl rfl)) ?_
    refine rq_gv rfl rfl rfl rfl rfl (fun _ => ov_eql rfl rfl rfl) ?_
    refine rq_gv rfl rfl rfl rfl rfl (fun _ => ov_move rfl rfl) ?_
    first | refine rq_split_dec 30 rfl (fun g2 => ?_) (fun g2 => ?_) | refine rq_split 30 rfl (fun g2 => ?_) (fun g2 => ?_)
    · refine rq_gv rfl rfl rfl rfl rfl (fun _ => ov_move rfl rfl) ?_
      refine rq_gv rfl rfl rfl rfl rfl (fun _ => ov_move rfl rfl) ?_
      refine rq_gv rfl rfl rfl rfl rfl (fun _ => ov_index rfl Try.underlying116 (by kernel_rfl) (s := 2) rfl rfl ⟨by omega, by omega⟩ (by first | rfl | exact hga (by omega))) ?_
      refine rq_gv rfl rfl rfl rfl rfl (fun _ => ov_fieldS rfl Try.underlying121 rfl (fo := 0) rfl (by kernel_rfl) rfl) ?_
      refine rq_gv rfl rfl rfl rfl rfl (fun _ => ov_load rfl Try.underlying3 rfl rfl (by show World.cell? w _ = _; first | exact hrow _ hO0.below _ (by omega) (by omega) _ (by omega) | exact hO0.cellI 0 rfl _ (by omega) (by omega) | exact hO0.cellL 0 rfl rfl | exact hO0.cellI 1 rfl _ (by omega) (by omega) | exact hO0.cellL 1 rfl rfl | exact hO0.cellI 2 rfl _ (by omega) (by omega) | exact hO0.cellL 2 rfl rfl | exact hO0.cellI 3 rfl _ (by omega) (by omega) | exact hO0.cellL 3 rfl rfl | exact hO0.cellI 4 rfl _ (by omega) (by omega) | exact hO0.cellL 4 rfl rfl | exact hO0.cellI 5 rfl _ (by omega) (by omega) | exact hO0.cellL 5 rfl rfl)) ?_
      refine rq_gv rfl rfl rfl rfl rfl (fun _ => ov_move rfl rfl) ?_
      refine rq_gv rfl rfl rfl rfl rfl (fun _ => ov_move rfl rfl) ?_
      refine rq_gv rfl rfl rfl rfl rfl (fun _ => ov_index rfl Try.underlying116 (by kernel_rfl) (s := 2) rfl rfl ⟨by omega, by omega⟩ (by first | rfl | exact hga (by omega))) ?_
      refine rq_gv rfl rfl rfl rfl rfl (fun _ => ov_fieldS rfl Try.underlying121 rfl (fo := 0) rfl (by kernel_rfl) rfl) ?_
      refine rq_gv rfl rfl rfl rfl rfl (fun _ => ov_load rfl Try.underlying3 rfl rfl (by show World.cell? w _ = _; first | exact hrow _ hO0.below _ (by omega) (by omega) _ (by omega) | exact hO0.cellI 0 rfl _ (by omega) (by omega) | exact hO0.cellL 0 rfl rfl | exact hO0.cellI 1 rfl _ (by omega) (by omega) | exact hO0.cellL 1 rfl rfl | exact hO0.cellI 2 rfl _ (by omega) (by omega) | exact hO0.cellL 2 rfl rfl | exact hO0.cellI 3 rfl _ (by omega) (by omega) | exact hO0.cellL 3 rfl rfl | exact hO0.cellI 4 rfl _ (by omega) (by omega) | exact hO0.cellL 4 rfl rfl | exact hO0.cellI 5 rfl _ (by omega) (by omega) | exact hO0.cellL 5 rfl rfl)) ?_
      refine rq_gv rfl rfl rfl rfl rfl (fun _ => ov_lss rfl rfl rfl) ?_
      refine rq_gv rfl rfl rfl rfl rfl (fun _ => ov_pick_t rfl rfl rfl) ?_
      refine rq_v rfl rfl rfl (fun _ => ov_pick_f rfl rfl rfl) ?_
      refine rq_v rfl rfl rfl (fun _ => ov_assign rfl rfl) ?_
      refine rq_nil (fun n6 => ?_)
      have hO8 := hO0.drewN n6
      generalize World.drewN w n6 = w7 at hO8 ⊢
      refine run_ret Try.func117 (res1 Try.results117 rfl) ?_
      exact ⟨⟨_, rfl, by rw [decide_eq_true_iff]; unfold bf; omega⟩, hO8.below⟩
    · refine rq_gskip rfl rfl rfl rfl rfl rfl ?_
      refine rq_gskip rfl rfl rfl rfl rfl rfl ?_
      refine rq_gskip rfl rfl rfl rfl rfl rfl ?_
      refine rq_gskip rfl rfl rfl rfl rfl rfl ?_
      refine rq_gskip rfl rfl rfl rfl rfl rfl ?_
      refine rq_gskip rfl rfl rfl rfl rfl rfl ?_
      refine rq_gskip rfl rfl rfl rfl rfl rfl ?_
      refine rq_gskip rfl rfl rfl rfl rfl rfl ?_
      refine rq_gskip rfl rfl rfl rfl rfl rfl ?_
      refine rq_gskip rfl rfl rfl rfl rfl rfl ?_
      refine rq_gskip rfl rfl rfl rfl rfl rfl ?_
      refine rq_gv rfl rfl rfl rfl rfl (fun _ => ov_pick_f rfl rfl rfl) ?_
      refine rq_v rfl rfl rfl (fun _ => ov_pick_f rfl rfl rfl) ?_
      refine rq_v rfl rfl rfl (fun _ => ov_assign rfl rfl) ?_
      refine rq_nil (fun n9 => ?_)
      have hO11 := hO0.drewN n9
      generalize World.drewN w n9 = w10 at hO11 ⊢
      refine run_ret Try.func117 (res1 Try.results117 rfl) ?_
      exact ⟨⟨false, rfl, ⟨fun h => Bool.noConfusion h, fun h => by unfold bf at h; omega⟩⟩, hO11.below⟩

theorem len_sh (ao : Option Addr) (n cap : Nat) (w : World) :
    Calls Try.prog 82 #[.slice ao n cap] w fun e w' => e = .returned (.int .i64 n) ∧ Below w.heap.size w w' := by
  refine calls_of_run (F := [(0, _)]) Try.func82 rfl Try.ntmps82 rfl rfl ?_
  have hO0 := Own.init w
  refine run_seq ?_
  refine run_region ?_
  refine rl_v rfl rfl rfl (ov_assign rfl rfl) ?_
  refine rl_nil ?_
  refine run_seq ?_
  refine run_region ?_
  refine rl_v rfl rfl rfl (ov_move rfl rfl) ?_
  refine rl_v rfl rfl rfl (ov_len rfl Try.underlying116 rfl) ?_
  refine rl_v rfl rfl rfl (ov_assign rfl rfl) ?_
  refine rl_nil ?_
  refine run_ret Try.func82 (res1 Try.results82 rfl) ?_
  exact ⟨rfl, hO0.below⟩

theorem SRow.openW {ao : Option Addr} {m cap : Nat} {E : TypeId} {s n : Nat} {G : Int → List Value} {c : Option Blk} (h : SRow (.slice ao m cap) E s n G c) (hn : 1 ≤ n) :
    ∃ b, ao = some ⟨b, 0, none⟩ ∧ n ≤ cap ∧ ∀ {B : Nat} {w0 w : World} {H : List (Option Blk)}, Own B w0 w H → ∀ k : Nat, H[k]? = some c → ∀ i : Int, 0 ≤ i → i < n → ∀ fo, fo < s → w.cell? ⟨b, 0 + i.toNat * s + fo, none⟩ = some ((G i).getD fo undef) := by
  have h' := h
  rcases h with ⟨h1, _, _⟩ | ⟨b, cap', g, h1, h2, h3, h4, h5⟩
  · omega
  · cases h1
    refine ⟨b, rfl, h2, fun ho k hk i i0 i1 fo hf => ?_⟩
    obtain ⟨b2, e1, e2⟩ := h'.openS ho k hk
    cases e1 (by omega)
    exact e2 i i0 i1 fo hf

theorem swap_sh (ao : Option Addr) (n cap B : Nat) (P A : Int → Int) (i j : Int) (c : Option Blk) (w0 w : World) (H : List (Option Blk)) (i0 : 0 ≤ i) (i1 : i < n) (j0 : 0 ≤ j) (j1 : j < n) (hO : Own B w0 w (c :: H)) (hr : SRow (.slice ao n cap) 121 2 n (hpG P A) c) :
    Calls Try.prog 120 #[.slice ao n cap, .int .i64 i, .int .i64 j] w fun e w' => e = .returned (.tuple #[]) ∧ ∃ c', Own B w0 w' (c' :: H) ∧ SRow (.slice ao n cap) 121 2 n (hpG (sw P i j) (sw A i j)) c' := by
  obtain ⟨gb, rfl, _, hrow⟩ := hr.openW (by omega)
  refine calls_of_run (F := [(0, _), (1, _), (2, _)]) Try.func120 rfl Try.ntmps120 rfl rfl ?_
  refine run_held (fun w' => Own B w0 w' (H)) mixed ?_
  have hO2 := hO.drew
  generalize World.drew w = w1 at hO2 ⊢
  have hS3 : Own B w0 w1 (H) := by exact hO2.tail
  refine rh_v 0 rfl (by kernel_rfl) rfl rfl rfl hS3 (fun _ hS => ov_move rfl rfl) ?_
  refine rh_v 1 rfl (by kernel_rfl) rfl rfl rfl hS3 (fun _ hS => ov_move rfl rfl) ?_
  refine rh_v 2 rfl (by kernel_rfl) rfl rfl rfl hS3 (fun _ hS => ov_move rfl rfl) ?_
  refine rh_v 3 rfl (by kernel_rfl) rfl rfl rfl hS3 (fun _ hS => ov_move rfl rfl) ?_
  refine rh_v 4 rfl (by kernel_rfl) rfl rfl rfl hS3 (fun _ hS => ov_move rfl rfl) ?_
  refine rh_v 5 rfl (by kernel_rfl) rfl rfl rfl hS3 (fun _ hS => ov_move rfl rfl) ?_
  refine rh_v 6 rfl (by kernel_rfl) rfl rfl rfl hS3 (fun _ hS => ov_index rfl Try.underlying116 (by kernel_rfl) (s := 2) rfl rfl ⟨by omega, by omega⟩ rfl) ?_
  refine rh_v 8 rfl (by kernel_rfl) rfl rfl rfl hS3 (fun _ hS => ov_move rfl rfl) ?_
  refine rh_v 9 rfl (by kernel_rfl) rfl rfl rfl hS3 (fun _ hS => ov_move rfl rfl) ?_
  refine rh_v 10 rfl (by kernel_rfl) rfl rfl rfl hS3 (fun _ hS => ov_index rfl Try.underlying116 (by kernel_rfl) (s := 2) rfl rfl ⟨by omega, by omega⟩ rfl) ?_
  refine rh_any2 7 11 (by kernel_rfl) ?_ ?_
  · refine rc_op rfl rfl (ow_v rfl rfl (ov_loadE rfl Try.underlying121 rfl (by kernel_rfl) rfl ⟨by omega, by omega⟩ rfl (hrow hO2 0 rfl))) ?_
    rintro _ _ ⟨rfl, rfl⟩
    refine ⟨hS3, ?_⟩
    refine rh_any1 11 (by kernel_rfl) ?_
    refine rc_op rfl rfl (ow_v rfl rfl (ov_loadE rfl Try.underlying121 rfl (by kernel_rfl) rfl ⟨by omega, by omega⟩ rfl (hrow hO2 0 rfl))) ?_
    rintro _ _ ⟨rfl, rfl⟩
    refine ⟨hS3, ?_⟩
    refine rh_v 12 rfl (by kernel_rfl) rfl rfl rfl hS3 (fun _ hS => ov_index rfl Try.underlying116 (by kernel_rfl) (s := 2) rfl rfl ⟨by omega, by omega⟩ rfl) ?_
    refine rh_any1 13 (by kernel_rfl) ?_
    refine rc_op rfl rfl (ow_storeE2 (kk := 0) rfl rfl (by kernel_rfl) hO2 hr rfl (fun _ => rfl) rfl ⟨by omega, by omega⟩ rfl rfl rfl rfl) ?_
    rintro _ w4 ⟨c1, rfl, hO5, hr1, hs6⟩
    have hS7 : Own B w0 w4 (H) := by exact hO5.tail
    refine ⟨hS7, ?_⟩
    refine rh_v 14 rfl (by kernel_rfl) rfl rfl rfl hS7 (fun _ hS => ov_index rfl Try.underlying116 (by kernel_rfl) (s := 2) rfl rfl ⟨by omega, by omega⟩ rfl) ?_
    refine rh_any1 15 (by kernel_rfl) ?_
    refine rc_op rfl rfl (ow_storeE2 (kk := 0) rfl rfl (by kernel_rfl) hO5 hr1 rfl (fun _ => rfl) rfl ⟨by omega, by omega⟩ (by unfold upd; split <;> rfl) rfl rfl rfl) ?_
    rintro _ w8 ⟨c2, rfl, hO9, hr2, hs10⟩
    have hS11 : Own B w0 w8 (H) := by exact hO9.tail
    refine ⟨hS11, ?_⟩
    refine rh_done (by kernel_rfl) ?_
    refine run_end Try.func120 (res0 Try.results120) ?_
    exact ⟨rfl, c2, hO9, hr2.congr fun k k0 k1 => by unfold upd hpG sw tr; split; rfl; split <;> rfl⟩
  · refine rc_op rfl rfl (ow_v rfl rfl (ov_loadE rfl Try.underlying121 rfl (by kernel_rfl) rfl ⟨by omega, by omega⟩ rfl (hrow hO2 0 rfl))) ?_
    rintro _ _ ⟨rfl, rfl⟩
    refine ⟨hS3, ?_⟩
    refine rh_any1 7 (by kernel_rfl) ?_
    refine rc_op rfl rfl (ow_v rfl rfl (ov_loadE rfl Try.underlying121 rfl (by kernel_rfl) rfl ⟨by omega, by omega⟩ rfl (hrow hO2 0 rfl))) ?_
    rintro _ _ ⟨rfl, rfl⟩
    refine ⟨hS3, ?_⟩
    refine rh_v 12 rfl (by kernel_rfl) rfl rfl rfl hS3 (fun _ hS => ov_index rfl Try.underlying116 (by kernel_rfl) (s := 2) rfl rfl ⟨by omega, by omega⟩ rfl) ?_
    refine rh_any1 13 (by kernel_rfl) ?_
    refine rc_op rfl rfl (ow_storeE2 (kk := 0) rfl rfl (by kernel_rfl) hO2 hr rfl (fun _ => rfl) rfl ⟨by omega, by omega⟩ rfl rfl rfl rfl) ?_
    rintro _ w12 ⟨c1, rfl, hO13, hr1, hs14⟩
    have hS15 : Own B w0 w12 (H) := by exact hO13.tail
    refine ⟨hS15, ?_⟩
    refine rh_v 14 rfl (by kernel_rfl) rfl rfl rfl hS15 (fun _ hS => ov_index rfl Try.underlying116 (by kernel_rfl) (s := 2) rfl rfl ⟨by omega, by omega⟩ rfl) ?_
    refine rh_any1 15 (by kernel_rfl) ?_
    refine rc_op rfl rfl (ow_storeE2 (kk := 0) rfl rfl (by kernel_rfl) hO13 hr1 rfl (fun _ => rfl) rfl ⟨by omega, by omega⟩ (by unfold upd; split <;> rfl) rfl rfl rfl) ?_
    rintro _ w16 ⟨c2, rfl, hO17, hr2, hs18⟩
    have hS19 : Own B w0 w16 (H) := by exact hO17.tail
    refine ⟨hS19, ?_⟩
    refine rh_done (by kernel_rfl) ?_
    refine run_end Try.func120 (res0 Try.results120) ?_
    exact ⟨rfl, c2, hO17, hr2.congr fun k k0 k1 => by unfold upd hpG sw tr; split; rfl; split <;> rfl⟩

theorem hpG_upd (P A : Int → Int) (n p a k : Int) : upd (hpG P A) n [.int .i64 p, .int .i64 a] k = hpG (upd P n p) (upd A n a) k := by
  unfold hpG upd
  by_cases e : k = n <;> simp [e]

theorem push_pile (b B n : Nat) (sv : Value) (P A : Int → Int) (p a : Int) (c : Option Blk) (w0 w : World) (H : List (Option Blk)) (hn : n ≤ 100) (hO : Own B w0 w (c :: some (lch b 118 [sv]) :: H)) (hr : SRow sv 121 2 n (hpG P A) c) :
    Calls Try.prog 119 #[.pointer (some ⟨b, 0, none⟩), .iface 121 (.agg #[.int .i64 p, .int .i64 a])] w fun e w' => e = .returned (.tuple #[]) ∧ ∃ sv' c', Own B w0 w' (c' :: some (lch b 118 [sv']) :: H) ∧ SRow sv' 121 2 (n + 1) (hpG (upd P n p) (upd A n a)) c' := by
  refine calls_of_run (F := [(0, _), (1, _)]) Try.func119 rfl Try.ntmps119 rfl rfl ?_
  refine run_held (fun w' => Own B w0 w' (H)) mixed ?_
  have hO2 := hO.drew
  generalize World.drew w = w1 at hO2 ⊢
  have hS3 : Own B w0 w1 (H) := by first | exact hO2.tail.tail | exact hO2.tail.tail.tail
  refine rh_v 0 rfl (by kernel_rfl) rfl rfl rfl hS3 (fun _ hS => ov_move rfl rfl) ?_
  refine rh_v 1 rfl (by kernel_rfl) rfl rfl rfl hS3 (fun _ hS => ov_move rfl rfl) ?_
  refine rh_v 2 rfl (by kernel_rfl) rfl rfl rfl hS3 (fun _ hS => ov_nil rfl rfl) ?_
  refine rh_v 3 rfl (by kernel_rfl) rfl rfl rfl hS3 (fun _ hS => ov_fieldS rfl Try.underlying118 rfl (fo := 0) rfl (by kernel_rfl) rfl) ?_
  refine rh_v 5 rfl (by kernel_rfl) rfl rfl rfl hS3 (fun _ hS => ov_move rfl rfl) ?_
  refine rh_v 6 rfl (by kernel_rfl) rfl rfl rfl hS3 (fun _ hS => ov_assert rfl Try.underlying121 rfl rfl) ?_
  refine rh_any2 4 7 (by kernel_rfl) ?_ ?_
  · refine rc_op rfl rfl (ow_v rfl rfl (ov_load rfl Try.underlying116 rfl rfl (by first | exact hO2.cellL 1 rfl rfl))) ?_
    rintro _ _ ⟨rfl, rfl⟩
    refine ⟨hS3, ?_⟩
    refine rh_any1 7 (by kernel_rfl) ?_
    refine rc_op rfl rfl (ow_build [_] rfl rfl rfl rfl rfl Try.underlying116 info_121 (by decide) hO2 rfl rfl) ?_
    rintro _ w4 ⟨b1, rfl, hO5, hs6⟩
    have hS7 : Own B w0 w4 (H) := by first | exact hO5.tail.tail | exact hO5.tail.tail.tail
    refine ⟨hS7, ?_⟩
    refine rh_any1 8 (by kernel_rfl) ?_
    refine rc_op rfl rfl (ow_appR1 rfl rfl rfl Try.underlying116 info_121 rfl rfl hO5 0 hr rfl rfl rfl rfl rfl ⟨by omega, by omega⟩) ?_
    rintro _ w8 ⟨v5, c5, rfl, hO9, hr5, hs10⟩
    have hS11 : Own B w0 w8 (H) := by first | exact hO9.tail.tail | exact hO9.tail.tail.tail
    refine ⟨hS11, ?_⟩
    obtain ⟨a5, p5, rfl⟩ := Row.val hr5
    refine rh_v 9 rfl (by kernel_rfl) rfl rfl rfl hS11 (fun _ hS => ov_nil rfl rfl) ?_
    refine rh_v 10 rfl (by kernel_rfl) rfl rfl rfl hS11 (fun _ hS => ov_fieldS rfl Try.underlying118 rfl (fo := 0) rfl (by kernel_rfl) rfl) ?_
    refine rh_any1 11 (by kernel_rfl) ?_
    refine rc_op rfl rfl (ow_storeL rfl rfl (by kernel_rfl) hO9 1 rfl rfl rfl rfl rfl) ?_
    rintro _ w12 ⟨rfl, hO13, hs14⟩
    have hS15 : Own B w0 w12 (H) := by first | exact hO13.tail.tail | exact hO13.tail.tail.tail
    refine ⟨hS15, ?_⟩
    refine rh_done (by kernel_rfl) ?_
    refine run_end Try.func119 (res0 Try.results119) ?_
    exact ⟨rfl, .slice a5 (n + 1) p5, c5, hO13, hr5.congr fun k _ _ => hpG_upd P A n p a k⟩
  · refine rc_op rfl rfl (ow_build [_] rfl rfl rfl rfl rfl Try.underlying116 info_121 (by decide) hO2 rfl rfl) ?_
    rintro _ w16 ⟨b1, rfl, hO17, hs18⟩
    have hS19 : Own B w0 w16 (H) := by first | exact hO17.tail.tail | exact hO17.tail.tail.tail
    refine ⟨hS19, ?_⟩
    refine rh_any1 4 (by kernel_rfl) ?_
    refine rc_op rfl rfl (ow_v rfl rfl (ov_load rfl Try.underlying116 rfl rfl (by first | exact hO17.cellL 2 rfl rfl))) ?_
    rintro _ _ ⟨rfl, rfl⟩
    refine ⟨hS19, ?_⟩
    refine rh_any1 8 (by kernel_rfl) ?_
    refine rc_op rfl rfl (ow_appR1 rfl rfl rfl Try.underlying116 info_121 rfl rfl hO17 0 hr rfl rfl rfl rfl rfl ⟨by omega, by omega⟩) ?_
    rintro _ w20 ⟨v5, c5, rfl, hO21, hr5, hs22⟩
    have hS23 : Own B w0 w20 (H) := by first | exact hO21.tail.tail | exact hO21.tail.tail.tail
    refine ⟨hS23, ?_⟩
    obtain ⟨a5, p5, rfl⟩ := Row.val hr5
    refine rh_v 9 rfl (by kernel_rfl) rfl rfl rfl hS23 (fun _ hS => ov_nil rfl rfl) ?_
    refine rh_v 10 rfl (by kernel_rfl) rfl rfl rfl hS23 (fun _ hS => ov_fieldS rfl Try.underlying118 rfl (fo := 0) rfl (by kernel_rfl) rfl) ?_
    refine rh_any1 11 (by kernel_rfl) ?_
    refine rc_op rfl rfl (ow_storeL rfl rfl (by kernel_rfl) hO21 1 rfl rfl rfl rfl rfl) ?_
    rintro _ w24 ⟨rfl, hO25, hs26⟩
    have hS27 : Own B w0 w24 (H) := by first | exact hO25.tail.tail | exact hO25.tail.tail.tail
    refine ⟨hS27, ?_⟩
    refine rh_done (by kernel_rfl) ?_
    refine run_end Try.func119 (res0 Try.results119) ?_
    exact ⟨rfl, .slice a5 (n + 1) p5, c5, hO25, hr5.congr fun k _ _ => hpG_upd P A n p a k⟩

theorem pop_pile (b B n cap : Nat) (ao : Option Addr) (P A : Int → Int) (c : Option Blk) (w0 w : World) (H : List (Option Blk)) (hn : 1 ≤ n) (hn2 : n ≤ 100) (hO : Own B w0 w (c :: some (lch b 118 [.slice ao n cap]) :: H)) (hr : SRow (.slice ao n cap) 121 2 n (hpG P A) c) :
    Calls Try.prog 118 #[.pointer (some ⟨b, 0, none⟩)] w fun e w' => e = .returned (.iface 121 (.agg #[.int .i64 (P (n - 1)), .int .i64 (A (n - 1))])) ∧ Own B w0 w' (c :: some (lch b 118 [.slice ao (n - 1) cap]) :: H) := by
  obtain ⟨gb, rfl, hncap, hrow⟩ := hr.openW hn
  refine calls_of_run (F := [(0, _)]) Try.func118 rfl Try.ntmps118 rfl rfl ?_
  refine run_seq ?_
  refine run_region ?_
  refine rl_v rfl rfl rfl (ov_assign rfl rfl) ?_
  refine rl_nil ?_
  refine run_seq ?_
  refine run_held (fun w' => Own B w0 w' (c :: some (lch b 118 [.slice (some ⟨gb, 0, none⟩) n cap]) :: H)) mixed ?_
  have hO2 := hO.drew
  generalize World.drew w = w1 at hO2 ⊢
  have hS3 : Own B w0 w1 (c :: some (lch b 118 [.slice (some ⟨gb, 0, none⟩) n cap]) :: H) := by first | exact hO2 | exact hO2.tail
  refine rh_v 0 rfl (by kernel_rfl) rfl rfl rfl hS3 (fun _ hS => ov_move rfl rfl) ?_
  refine rh_v 1 rfl (by kernel_rfl) rfl rfl rfl hS3 (fun _ hS => ov_nil rfl rfl) ?_
  refine rh_v 2 rfl (by kernel_rfl) rfl rfl rfl hS3 (fun _ hS => ov_fieldS rfl Try.underlying118 rfl (fo := 0) rfl (by kernel_rfl) rfl) ?_
  refine rh_v 3 rfl (by kernel_rfl) rfl rfl rfl hS3 (fun _ hS => ov_load rfl Try.underlying116 rfl rfl (by first | exact hS.cellL 1 rfl rfl)) ?_
  refine rh_v 4 rfl (by kernel_rfl) rfl rfl rfl hS3 (fun _ hS => ov_move rfl rfl) ?_
  refine rh_v 5 rfl (by kernel_rfl) rfl rfl rfl hS3 (fun _ hS => ov_nil rfl rfl) ?_
  refine rh_v 6 rfl (by kernel_rfl) rfl rfl rfl hS3 (fun _ hS => ov_fieldS rfl Try.underlying118 rfl (fo := 0) rfl (by kernel_rfl) rfl) ?_
  refine rh_v 7 rfl (by kernel_rfl) rfl rfl rfl hS3 (fun _ hS => ov_load rfl Try.underlying116 rfl rfl (by first | exact hS.cellL 1 rfl rfl)) ?_
  refine rh_v 8 rfl (by kernel_rfl) rfl rfl rfl hS3 (fun _ hS => ov_len rfl Try.underlying116 rfl) ?_
  refine rh_v 9 rfl (by kernel_rfl) rfl rfl rfl hS3 (fun _ hS => ov_sub rfl rfl rfl (by omega)) ?_
  refine rh_v 10 rfl (by kernel_rfl) rfl rfl rfl hS3 (fun _ hS => ov_index rfl Try.underlying116 (by kernel_rfl) (s := 2) rfl rfl ⟨by omega, by omega⟩ rfl) ?_
  refine rh_v 11 rfl (by kernel_rfl) rfl rfl rfl hS3 (fun _ hS => ov_loadE rfl Try.underlying121 rfl (by kernel_rfl) rfl ⟨by omega, by omega⟩ rfl (hrow hS 0 rfl)) ?_
  refine rh_any1 12 (by kernel_rfl) ?_
  refine rc_op rfl rfl (ow_alloc _ rfl rfl rfl zero_121 rfl hO2) ?_
  rintro _ w4 ⟨b3, rfl, hO5, hs6⟩
  have hS7 : Own B w0 w4 (c :: some (lch b 118 [.slice (some ⟨gb, 0, none⟩) n cap]) :: H) := by first | exact hO5 | exact hO5.tail
  refine ⟨hS7, ?_⟩
  refine rh_any1 13 (by kernel_rfl) ?_
  refine rc_op rfl rfl (ow_storeW rfl rfl (by kernel_rfl) hO5 0 rfl rfl (by rfl) rfl (by rfl)) ?_
  rintro _ w8 ⟨rfl, hO9, hs10⟩
  have hS11 : Own B w0 w8 (c :: some (lch b 118 [.slice (some ⟨gb, 0, none⟩) n cap]) :: H) := by first | exact hO9 | exact hO9.tail
  refine ⟨hS11, ?_⟩
  refine rh_done (by kernel_rfl) ?_
  refine run_seq ?_
  refine run_tail 14 mixed (by kernel_rfl) ?_
  have hO13 := hO9.drew
  generalize World.drew w8 = w12 at hO13 ⊢
  refine rt_v rfl rfl rfl (ov_move rfl rfl) ?_
  refine rt_v rfl rfl rfl (ov_move rfl rfl) ?_
  refine rt_v rfl rfl rfl (ov_nil rfl rfl) ?_
  refine rt_v rfl rfl rfl (ov_fieldS rfl Try.underlying118 rfl (fo := 0) rfl (by kernel_rfl) rfl) ?_
  refine rt_v rfl rfl rfl (ov_load rfl Try.underlying116 rfl rfl (by first | exact hO13.cellL 2 rfl rfl)) ?_
  refine rt_v rfl rfl rfl (ov_move rfl rfl) ?_
  refine rt_v rfl rfl rfl (ov_nil rfl rfl) ?_
  refine rt_v rfl rfl rfl (ov_fieldS rfl Try.underlying118 rfl (fo := 0) rfl (by kernel_rfl) rfl) ?_
  refine rt_v rfl rfl rfl (ov_load rfl Try.underlying116 rfl rfl (by first | exact hO13.cellL 2 rfl rfl)) ?_
  refine rt_v rfl rfl rfl (ov_len rfl Try.underlying116 rfl) ?_
  refine rt_v rfl rfl rfl (ov_sub rfl rfl rfl (by omega)) ?_
  refine rt_v rfl rfl rfl (ov_sliceH (n - 1) (s := 2) rfl Try.underlying116 (by kernel_rfl) rfl rfl (by first | rfl | omega) (by omega)) ?_
  refine rt_v rfl rfl rfl (ov_nil rfl rfl) ?_
  refine rt_v rfl rfl rfl (ov_fieldS rfl Try.underlying118 rfl (fo := 0) rfl (by kernel_rfl) rfl) ?_
  refine rt_nil ?_
  refine rl_ow rfl (ow_storeL rfl rfl (by kernel_rfl) hO13 2 rfl rfl rfl rfl rfl) ?_
  rintro _ w14 ⟨rfl, hO15, hs16⟩
  refine rl_nil ?_
  refine run_seq ?_
  refine run_region ?_
  refine rl_v rfl rfl rfl (ov_loadW rfl Try.underlying121 rfl (by kernel_rfl) rfl hO15 0 rfl) ?_
  refine rl_v rfl rfl rfl (ov_iface rfl Try.underlying121 (by intro _ h; cases h) rfl) ?_
  refine rl_v rfl rfl rfl (ov_assign rfl rfl) ?_
  refine rl_nil ?_
  refine run_ret Try.func118 (res1 Try.results118 rfl) ?_
  exact ⟨rfl, hO15.tail⟩
end Go.Proofs.Ytiambddcpflkhaa
