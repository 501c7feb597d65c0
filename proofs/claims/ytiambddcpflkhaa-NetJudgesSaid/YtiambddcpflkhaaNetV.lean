/- Crises that are not valid: every call returns the same error. table. NetCrises: the walk. -/
import Derived.Test.YtiambddcpflkhaaNetQ
set_option maxRecDepth 100000
namespace Go.Proofs.Ytiambddcpflkhaa
open Go.RowKit Go.Proofs

/-- A table whose rows' lengths are within their capacities. -/
def ITabC (B : Nat) (w : World) (ao : Option Addr) (n : Nat) (L : Int → Nat) (F : Int → Int → Value) : Prop :=
  ∃ (A : Int → Option Addr) (C : Int → Nat), IAt B w ao n (fun r => .slice (A r) (L r) (C r)) ∧ (∀ r : Int, 0 ≤ r → r < n → L r ≤ C r) ∧ ∀ r : Int, 0 ≤ r → r < n → IAt B w (A r) (L r) (F r)
theorem ITabC.tab {B : Nat} {w : World} {ao : Option Addr} {n : Nat} {L : Int → Nat} {F : Int → Int → Value} (h : ITabC B w ao n L F) : ITab B w ao n L F := by
  obtain ⟨A, C, h1, _, h2⟩ := h
  exact ⟨A, C, h1, h2⟩
theorem ITabC.later {w w' : World} {ao : Option Addr} {n : Nat} {L : Int → Nat} {F : Int → Int → Value} (h : ITabC w.heap.size w ao n L F) (hb : Below w.heap.size w w') : ITabC w'.heap.size w' ao n L F := by
  obtain ⟨A, C, h1, hc, h2⟩ := h
  exact ⟨A, C, h1.later hb, hc, fun r r0 r1 => (h2 r r0 r1).later hb⟩
theorem ITabC.open {B : Nat} {w : World} {ao : Option Addr} {n : Nat} {L : Int → Nat} {F : Int → Int → Value} (h : ITabC B w ao n L F) :
    ∃ (A : Int → Option Addr) (C RB RO : Int → Nat) (gb go : Nat), (0 < n → ao = some ⟨gb, go, none⟩) ∧ (∀ w', Below B w w' → ∀ r : Int, 0 ≤ r → r < n → w'.cell? ⟨gb, go + r.toNat, none⟩ = some (.slice (A r) (L r) (C r))) ∧
      (∀ r : Int, 0 ≤ r → r < n → 0 < L r → A r = some ⟨RB r, RO r, none⟩) ∧ (∀ w', Below B w w' → ∀ r : Int, 0 ≤ r → r < n → ∀ j : Int, 0 ≤ j → j < L r → w'.cell? ⟨RB r, RO r + j.toNat, none⟩ = some (F r j)) ∧
      (∀ r : Int, 0 ≤ r → r < n → IAt B w (A r) (L r) (F r)) ∧ ∀ r : Int, 0 ≤ r → r < n → L r ≤ C r := by
  obtain ⟨A, C, h1, hc, h2⟩ := h
  obtain ⟨gb, go, hga, hrow⟩ := h1.open
  have hx : ∀ r : Int, ∃ p : Nat × Nat, 0 ≤ r → r < n → (0 < L r → A r = some ⟨p.1, p.2, none⟩) ∧ ∀ w', Below B w w' → ∀ j : Int, 0 ≤ j → j < L r → w'.cell? ⟨p.1, p.2 + j.toNat, none⟩ = some (F r j) := by
    intro r
    by_cases hr : 0 ≤ r ∧ r < n
    · obtain ⟨b, o, e1, e2⟩ := (h2 r hr.1 hr.2).open
      exact ⟨(b, o), fun _ _ => ⟨e1, e2⟩⟩
    · exact ⟨(0, 0), fun a b => absurd ⟨a, b⟩ hr⟩
  exact ⟨A, C, fun r => (Classical.choose (hx r)).1, fun r => (Classical.choose (hx r)).2, gb, go, hga, hrow, fun r h0 hr => (Classical.choose_spec (hx r) h0 hr).1,
    fun w' hb r h0 hr => (Classical.choose_spec (hx r) h0 hr).2 w' hb, h2, hc⟩

theorem table_any (ao : Option Addr) (G Gc most : Nat) (L : Int → Nat) (D : Int → Int → Int) (w : World) (hm : most ≤ 100)
    (h : ITabC w.heap.size w ao G L (fun r c => .int .i64 (D r c))) :
    Calls Try.prog 39 #[.slice ao G Gc, .int .i64 most] w fun e w' =>
      ∃ (v : Value) (H : List (Option Blk)), e = .returned v ∧ OTab v 23 2 (min G most) (fun r => min (L r) most) (fun r c => .int .i64 (D r c)) H ∧ Own w.heap.size w w' H := by
  obtain ⟨A, C, RB, RO, gb, go, hga, hrow, hra, hel, hri, hlc⟩ := h.open
  refine calls_of_run (F := [(0, _), (1, _)]) Try.func39 rfl Try.ntmps39 rfl rfl ?_
  have hO0 := Own.init w
  have hO5 := hO0.nil_cons
  refine run_seq ?_
  refine run_region ?_
  refine rl_v rfl rfl rfl (ov_assign rfl rfl) ?_
  refine rl_nil ?_
  refine run_seq ?_
  refine run_region ?_
  refine rl_v rfl rfl rfl (ov_assign rfl rfl) ?_
  refine rl_nil ?_
  refine run_seq ?_
  refine run_seq ?_
  refine run_region ?_
  refine rl_v rfl rfl rfl (ov_assign rfl rfl) ?_
  refine rl_nil ?_
  refine run_block ?_
  refine Run.keep [0, 1, 5, 6] (F' := [(0, _), (1, _), (5, _), (6, _)]) rfl ?_
  refine run_loop4 (fun (k : Int) (m : Nat) (v : Value) (H : List (Option Blk)) => [(6, .int .i64 k), (5, v)]) [0, 1] (fun (k : Int) (m : Nat) (v : Value) (H : List (Option Blk)) (w1 : World) => k = m ∧ m ≤ min G most ∧ OTab v 23 2 m (fun r => min (L r) most) (fun r c => .int .i64 (D r c)) H ∧ Own w.heap.size w w1 H) (fun (k : Int) (m : Nat) (v : Value) (H : List (Option Blk)) => min G most - m) (0) (0) (.slice none 0 0) ([none]) ?_ (And.intro (by first | with_reducible rfl | exact slot_int rfl (by first | omega) | rfl) (And.intro rfl (And.intro rfl (And.intro rfl trivial)))) ?_
  · exact ⟨rfl, by omega, OTab.nil _ _ _ _, hO5⟩
  intro k m v H w1 hIw1 ih2
  obtain ⟨hk, hm1, hT, hO⟩ := hIw1
  show Run _ _ _ _ [(6, _), (5, _), (0, _), (1, _)] _ _
  refine run_seq ?_
  refine run_seq ?_
  refine run_region_join 16 (.bool (decide (k < min G most))) [0, 1, 5, 6] (fun hk3 => ?_) ?_
  · refine rl_v rfl rfl rfl (ov_move rfl rfl) ?_
    refine rl_v rfl rfl rfl (ov_move rfl rfl) ?_
    refine rl_v rfl rfl rfl (ov_len rfl Try.underlying22 rfl) ?_
    refine rl_v rfl rfl rfl (ov_lss rfl rfl rfl) ?_
    refine rl_v rfl rfl rfl (ov_move rfl rfl) ?_
    first | refine rl_split_dec 12 rfl (fun hg4 => ?_) (fun hg4 => ?_) | refine rl_split 12 rfl (fun hg4 => ?_) (fun hg4 => ?_)
    · refine rl_gv rfl rfl rfl rfl rfl (ov_move rfl rfl) ?_
      refine rl_gv rfl rfl rfl rfl rfl (ov_move rfl rfl) ?_
      refine rl_gv rfl rfl rfl rfl rfl (ov_lss rfl rfl rfl) ?_
      refine rl_v rfl rfl rfl (ov_pick_t rfl rfl rfl) ?_
      refine rl_nil (hk3 _ (jbd rfl (by first | omega | grind)) (And.intro rfl (And.intro rfl (And.intro rfl (And.intro rfl trivial)))))
    · refine rl_gskip rfl rfl rfl rfl rfl rfl ?_
      refine rl_gskip rfl rfl rfl rfl rfl rfl ?_
      refine rl_gskip rfl rfl rfl rfl rfl rfl ?_
      refine rl_v rfl rfl rfl (ov_pick_f rfl rfl rfl) ?_
      refine rl_nil (hk3 _ (jbf rfl (by first | omega | grind)) (And.intro rfl (And.intro rfl (And.intro rfl (And.intro rfl trivial)))))
  · show Run _ _ _ _ [(16, _), (0, _), (1, _), (5, _), (6, _)] _ _
    first | refine run_cond_dec rfl (fun h1 => ?_) (fun h1 => ?_) | refine run_cond rfl (fun h1 => ?_) (fun h1 => ?_)
    · have hLC := hlc k (by omega) (by omega)
      have hO9 := hO.nil_cons
      refine run_skip ?_
      refine run_seq ?_
      refine run_block ?_
      refine run_seq ?_
      refine run_region ?_
      refine rl_v rfl rfl rfl (ov_assign rfl rfl) ?_
      refine rl_nil ?_
      refine run_seq ?_
      refine run_tail 13 mixed (by kernel_rfl) ?_
      have hO6 := hO9.drew
      generalize World.drew w1 = w5 at hO6 ⊢
      refine rt_v rfl rfl rfl (ov_move rfl rfl) ?_
      refine rt_v rfl rfl rfl (ov_move rfl rfl) ?_
      refine rt_v rfl rfl rfl (ov_move rfl rfl) ?_
      refine rt_v rfl rfl rfl (ov_index1 rfl Try.underlying22 (by kernel_rfl) rfl rfl ⟨by omega, by omega⟩ (by first | rfl | exact hga (by omega) | exact hra _ (by omega) (by omega) (by omega))) ?_
      refine rt_v rfl rfl rfl (ov_load rfl Try.underlying23 rfl rfl (by first | exact hrow _ hO6.below _ (by omega) (by omega) | exact hel _ hO6.below _ (by omega) (by omega) _ (by omega) (by omega) | exact hO6.cellI 0 rfl _ (by omega) (by omega) | exact hO6.cellL 0 rfl rfl | exact hO6.cellI 1 rfl _ (by omega) (by omega) | exact hO6.cellL 1 rfl rfl | exact hO6.cellI 2 rfl _ (by omega) (by omega) | exact hO6.cellL 2 rfl rfl | exact hO6.cellI 3 rfl _ (by omega) (by omega) | exact hO6.cellL 3 rfl rfl | exact hO6.cellI 4 rfl _ (by omega) (by omega) | exact hO6.cellL 4 rfl rfl | exact hO6.cellI 5 rfl _ (by omega) (by omega) | exact hO6.cellL 5 rfl rfl)) ?_
      refine rt_v rfl rfl rfl (ov_move rfl rfl) ?_
      refine rt_v rfl rfl rfl (ov_move rfl rfl) ?_
      refine rt_v rfl rfl rfl (ov_index1 rfl Try.underlying22 (by kernel_rfl) rfl rfl ⟨by omega, by omega⟩ (by first | rfl | exact hga (by omega) | exact hra _ (by omega) (by omega) (by omega))) ?_
      refine rt_v rfl rfl rfl (ov_load rfl Try.underlying23 rfl rfl (by first | exact hrow _ hO6.below _ (by omega) (by omega) | exact hel _ hO6.below _ (by omega) (by omega) _ (by omega) (by omega) | exact hO6.cellI 0 rfl _ (by omega) (by omega) | exact hO6.cellL 0 rfl rfl | exact hO6.cellI 1 rfl _ (by omega) (by omega) | exact hO6.cellL 1 rfl rfl | exact hO6.cellI 2 rfl _ (by omega) (by omega) | exact hO6.cellL 2 rfl rfl | exact hO6.cellI 3 rfl _ (by omega) (by omega) | exact hO6.cellL 3 rfl rfl | exact hO6.cellI 4 rfl _ (by omega) (by omega) | exact hO6.cellL 4 rfl rfl | exact hO6.cellI 5 rfl _ (by omega) (by omega) | exact hO6.cellL 5 rfl rfl)) ?_
      refine rt_v rfl rfl rfl (ov_len rfl Try.underlying23 rfl) ?_
      refine rt_v rfl rfl rfl (ov_move rfl rfl) ?_
      refine rt_v rfl rfl rfl (ov_min rfl rfl rfl) ?_
      refine rt_v rfl rfl rfl (ov_sliceH (min (L k) most) (s := 1) rfl Try.underlying23 (by kernel_rfl) rfl rfl (by first | rfl | omega) (by omega)) ?_
      refine rt_nil ?_
      refine rl_appSI rfl rfl rfl rfl Try.underlying23 info_2 rfl hO6 0 (IRow.nil 2 (fun j => .int .i64 (zeroI j))) rfl rfl rfl ((((hri k (by omega) (by omega)).below hO6.below).take (by omega))) ⟨by omega, by omega⟩ (fun v5 c5 w7 hO8 hr5 hs9 => ?_)
      obtain ⟨ao5, cap5, rfl⟩ := hr5.val
      obtain ⟨c, rv, ch, rfl, hv, h3⟩ := hT
      refine rl_v rfl rfl rfl (ov_assign rfl rfl) ?_
      refine rl_nil ?_
      refine run_region ?_
      refine rl_v rfl rfl rfl (ov_move rfl rfl) ?_
      refine rl_v rfl rfl rfl (ov_move rfl rfl) ?_
      refine rl_appV rfl rfl rfl rfl rfl rfl rfl rfl Try.underlying22 info_23 rfl hO8 1 hv rfl rfl rfl rfl ⟨by omega, by omega⟩ (fun v6 c6 w10 hO11 hv6 hs12 => ?_)
      obtain ⟨H', hT', hO'⟩ := OTab.snoc (L := fun r => min (L r) most) (F := fun r c => .int .i64 (D r c)) (H0 := []) h3 hr5 hv6 (by simpa using hO11) (by rw [hk, Nat.zero_add]) (fun i _ _ => by unfold joinF; rw [if_neg (by omega), ← hk]; simp)
      refine rl_v rfl rfl rfl (ov_assign rfl rfl) ?_
      refine rl_nil ?_
      refine run_inBlock ?_
      refine run_region ?_
      refine rl_v rfl rfl rfl (ov_move rfl rfl) ?_
      refine rl_v rfl rfl rfl (ov_add rfl rfl rfl (by omega)) ?_
      refine rl_v rfl rfl rfl (ov_assign rfl rfl) ?_
      refine rl_nil ?_
      refine Run.use (ih2 (k + 1) (m + 1) (v6) (H') _ ?_ ?_) (And.intro (by first | with_reducible rfl | exact slot_int rfl (by first | omega) | rfl) (And.intro rfl (And.intro rfl (And.intro rfl trivial))))
      · first | omega | (dsimp only; omega)
      · exact ⟨by omega, by omega, hT', by simpa using hO'⟩
    · obtain rfl : m = min G most := by omega
      refine run_exit rfl ?_
      refine run_seq ?_
      refine run_region ?_
      refine rl_v rfl rfl rfl (ov_move rfl rfl) ?_
      refine rl_v rfl rfl rfl (ov_assign rfl rfl) ?_
      refine rl_nil ?_
      refine run_ret Try.func39 (res1 Try.results39 rfl) ?_
      exact ⟨v, H, rfl, hT, hO⟩

theorem Clear_err (ao ac : Option Addr) (n c m cm : Nat) (L : Int → Nat) (D : Int → Int → Int) (cash : Int → Int) (w : World) (hn : n ≤ 1000000000000000) (hm : m ≤ 1000000000000000) (he : chkC n L D m cash ≠ 0)
    (h : ITab w.heap.size w ao n L (fun r c => .int .i64 (D r c))) (h2 : IAt w.heap.size w ac m (fun i => .int .i64 (cash i))) :
    Calls Try.prog 32 #[.agg [.slice ao n c, .slice ac m cm].toArray] w fun e w' => e = .returned (.tuple #[.slice none 0 0, .int .i64 (chkC n L D m cash)]) ∧ Below w.heap.size w w' := by
  refine calls_of_run (F := [(0, _)]) Try.func32 rfl Try.ntmps32 rfl rfl ?_
  have hO0 := Own.init w
  refine run_seq ?_
  refine run_region ?_
  refine rl_ow rfl (ow_box _ rfl rfl rfl rfl rfl hO0) ?_
  rintro _ w1 ⟨b1, rfl, hO2, hs3⟩
  refine rl_v rfl rfl rfl (ov_assign rfl rfl) ?_
  refine rl_v rfl rfl rfl (ov_assign rfl rfl) ?_
  refine rl_nil ?_
  refine run_seq ?_
  refine run_seq ?_
  refine run_region ?_
  refine rl_v rfl rfl rfl (ov_loadW rfl Try.underlying37 rfl (by kernel_rfl) rfl hO2 0 rfl) ?_
  refine rl_call callable_56 rfl rfl rfl rfl rfl rfl (checkCrisis_any ao ac n c m cm L D cash _ hn hm (h.later hO2.below) (h2.later hO2.below)) (fun e4 w5 hp6 => ?_)
  obtain ⟨rfl, hb⟩ := hp6
  refine ⟨_, rfl, ?_⟩
  have hO7 := hO2.past hb
  refine rl_v rfl rfl rfl (ov_assign rfl rfl) ?_
  refine rl_nil ?_
  refine run_seq ?_
  refine run_region ?_
  refine rl_v rfl rfl rfl (ov_move rfl rfl) ?_
  refine rl_v rfl rfl rfl (ov_neq rfl rfl rfl) ?_
  refine rl_nil ?_
  first | refine run_cond_dec rfl (fun h1 => ?_) (fun h1 => ?_) | refine run_cond rfl (fun h1 => ?_) (fun h1 => ?_)
  · refine run_seq ?_
    refine run_region ?_
    refine rl_v rfl rfl rfl (ov_move rfl rfl) ?_
    refine rl_v rfl rfl rfl (ov_assign rfl rfl) ?_
    refine rl_v rfl rfl rfl (ov_assign rfl rfl) ?_
    refine rl_nil ?_
    refine run_ret Try.func32 (res2 Try.results32 rfl rfl) ?_
    exact ⟨rfl, hO7.below⟩
  · exfalso; exact h1 he

theorem Failing_err (ao ac : Option Addr) (n c m cm : Nat) (L : Int → Nat) (D : Int → Int → Int) (cash : Int → Int) (w : World) (hn : n ≤ 1000000000000000) (hm : m ≤ 1000000000000000) (he : chkC n L D m cash ≠ 0)
    (h : ITab w.heap.size w ao n L (fun r c => .int .i64 (D r c))) (h2 : IAt w.heap.size w ac m (fun i => .int .i64 (cash i))) :
    Calls Try.prog 33 #[.agg [.slice ao n c, .slice ac m cm].toArray] w fun e w' => e = .returned (.tuple #[.slice none 0 0, .int .i64 (chkC n L D m cash)]) ∧ Below w.heap.size w w' := by
  refine calls_of_run (F := [(0, _)]) Try.func33 rfl Try.ntmps33 rfl rfl ?_
  have hO0 := Own.init w
  refine run_seq ?_
  refine run_region ?_
  refine rl_ow rfl (ow_box _ rfl rfl rfl rfl rfl hO0) ?_
  rintro _ w1 ⟨b1, rfl, hO2, hs3⟩
  refine rl_v rfl rfl rfl (ov_assign rfl rfl) ?_
  refine rl_v rfl rfl rfl (ov_assign rfl rfl) ?_
  refine rl_nil ?_
  refine run_seq ?_
  refine run_seq ?_
  refine run_region ?_
  refine rl_v rfl rfl rfl (ov_loadW rfl Try.underlying37 rfl (by kernel_rfl) rfl hO2 0 rfl) ?_
  refine rl_call callable_56 rfl rfl rfl rfl rfl rfl (checkCrisis_any ao ac n c m cm L D cash _ hn hm (h.later hO2.below) (h2.later hO2.below)) (fun e4 w5 hp6 => ?_)
  obtain ⟨rfl, hb⟩ := hp6
  refine ⟨_, rfl, ?_⟩
  have hO7 := hO2.past hb
  refine rl_v rfl rfl rfl (ov_assign rfl rfl) ?_
  refine rl_nil ?_
  refine run_seq ?_
  refine run_region ?_
  refine rl_v rfl rfl rfl (ov_move rfl rfl) ?_
  refine rl_v rfl rfl rfl (ov_neq rfl rfl rfl) ?_
  refine rl_nil ?_
  first | refine run_cond_dec rfl (fun h1 => ?_) (fun h1 => ?_) | refine run_cond rfl (fun h1 => ?_) (fun h1 => ?_)
  · refine run_seq ?_
    refine run_region ?_
    refine rl_v rfl rfl rfl (ov_move rfl rfl) ?_
    refine rl_v rfl rfl rfl (ov_assign rfl rfl) ?_
    refine rl_v rfl rfl rfl (ov_assign rfl rfl) ?_
    refine rl_nil ?_
    refine run_ret Try.func33 (res2 Try.results33 rfl rfl) ?_
    exact ⟨rfl, hO7.below⟩
  · exfalso; exact h1 he

theorem Worths_err (ao ac : Option Addr) (n c m cm : Nat) (L : Int → Nat) (D : Int → Int → Int) (cash : Int → Int) (w : World) (hn : n ≤ 1000000000000000) (hm : m ≤ 1000000000000000) (he : chkC n L D m cash ≠ 0)
    (h : ITab w.heap.size w ao n L (fun r c => .int .i64 (D r c))) (h2 : IAt w.heap.size w ac m (fun i => .int .i64 (cash i))) :
    Calls Try.prog 34 #[.agg [.slice ao n c, .slice ac m cm].toArray] w fun e w' => e = .returned (.tuple #[.slice none 0 0, .int .i64 (chkC n L D m cash)]) ∧ Below w.heap.size w w' := by
  refine calls_of_run (F := [(0, _)]) Try.func34 rfl Try.ntmps34 rfl rfl ?_
  have hO0 := Own.init w
  refine run_seq ?_
  refine run_region ?_
  refine rl_ow rfl (ow_box _ rfl rfl rfl rfl rfl hO0) ?_
  rintro _ w1 ⟨b1, rfl, hO2, hs3⟩
  refine rl_v rfl rfl rfl (ov_assign rfl rfl) ?_
  refine rl_v rfl rfl rfl (ov_assign rfl rfl) ?_
  refine rl_nil ?_
  refine run_seq ?_
  refine run_seq ?_
  refine run_region ?_
  refine rl_v rfl rfl rfl (ov_loadW rfl Try.underlying37 rfl (by kernel_rfl) rfl hO2 0 rfl) ?_
  refine rl_call callable_56 rfl rfl rfl rfl rfl rfl (checkCrisis_any ao ac n c m cm L D cash _ hn hm (h.later hO2.below) (h2.later hO2.below)) (fun e4 w5 hp6 => ?_)
  obtain ⟨rfl, hb⟩ := hp6
  refine ⟨_, rfl, ?_⟩
  have hO7 := hO2.past hb
  refine rl_v rfl rfl rfl (ov_assign rfl rfl) ?_
  refine rl_nil ?_
  refine run_seq ?_
  refine run_region ?_
  refine rl_v rfl rfl rfl (ov_move rfl rfl) ?_
  refine rl_v rfl rfl rfl (ov_neq rfl rfl rfl) ?_
  refine rl_nil ?_
  first | refine run_cond_dec rfl (fun h1 => ?_) (fun h1 => ?_) | refine run_cond rfl (fun h1 => ?_) (fun h1 => ?_)
  · refine run_seq ?_
    refine run_region ?_
    refine rl_v rfl rfl rfl (ov_move rfl rfl) ?_
    refine rl_v rfl rfl rfl (ov_assign rfl rfl) ?_
    refine rl_v rfl rfl rfl (ov_assign rfl rfl) ?_
    refine rl_nil ?_
    refine run_ret Try.func34 (res2 Try.results34 rfl rfl) ?_
    exact ⟨rfl, hO7.below⟩
  · exfalso; exact h1 he

theorem Waves_err (ao ac : Option Addr) (n c m cm : Nat) (L : Int → Nat) (D : Int → Int → Int) (cash : Int → Int) (w : World) (hn : n ≤ 1000000000000000) (hm : m ≤ 1000000000000000) (he : chkC n L D m cash ≠ 0)
    (h : ITab w.heap.size w ao n L (fun r c => .int .i64 (D r c))) (h2 : IAt w.heap.size w ac m (fun i => .int .i64 (cash i))) :
    Calls Try.prog 35 #[.agg [.slice ao n c, .slice ac m cm].toArray] w fun e w' => e = .returned (.tuple #[.slice none 0 0, .int .i64 (chkC n L D m cash)]) ∧ Below w.heap.size w w' := by
  refine calls_of_run (F := [(0, _)]) Try.func35 rfl Try.ntmps35 rfl rfl ?_
  have hO0 := Own.init w
  refine run_seq ?_
  refine run_region ?_
  refine rl_ow rfl (ow_box _ rfl rfl rfl rfl rfl hO0) ?_
  rintro _ w1 ⟨b1, rfl, hO2, hs3⟩
  refine rl_v rfl rfl rfl (ov_assign rfl rfl) ?_
  refine rl_v rfl rfl rfl (ov_assign rfl rfl) ?_
  refine rl_nil ?_
  refine run_seq ?_
  refine run_seq ?_
  refine run_region ?_
  refine rl_v rfl rfl rfl (ov_loadW rfl Try.underlying37 rfl (by kernel_rfl) rfl hO2 0 rfl) ?_
  refine rl_call callable_56 rfl rfl rfl rfl rfl rfl (checkCrisis_any ao ac n c m cm L D cash _ hn hm (h.later hO2.below) (h2.later hO2.below)) (fun e4 w5 hp6 => ?_)
  obtain ⟨rfl, hb⟩ := hp6
  refine ⟨_, rfl, ?_⟩
  have hO7 := hO2.past hb
  refine rl_v rfl rfl rfl (ov_assign rfl rfl) ?_
  refine rl_nil ?_
  refine run_seq ?_
  refine run_region ?_
  refine rl_v rfl rfl rfl (ov_move rfl rfl) ?_
  refine rl_v rfl rfl rfl (ov_neq rfl rfl rfl) ?_
  refine rl_nil ?_
  first | refine run_cond_dec rfl (fun h1 => ?_) (fun h1 => ?_) | refine run_cond rfl (fun h1 => ?_) (fun h1 => ?_)
  · refine run_seq ?_
    refine run_region ?_
    refine rl_v rfl rfl rfl (ov_move rfl rfl) ?_
    refine rl_v rfl rfl rfl (ov_assign rfl rfl) ?_
    refine rl_v rfl rfl rfl (ov_assign rfl rfl) ?_
    refine rl_nil ?_
    refine run_ret Try.func35 (res2 Try.results35 rfl rfl) ?_
    exact ⟨rfl, hO7.below⟩
  · exfalso; exact h1 he

theorem Rescue_err (ao ac : Option Addr) (n c m cm : Nat) (party : Int) (L : Int → Nat) (D : Int → Int → Int) (cash : Int → Int) (w : World) (hn : n ≤ 1000000000000000) (hm : m ≤ 1000000000000000) (he : chkC n L D m cash ≠ 0)
    (h : ITab w.heap.size w ao n L (fun r c => .int .i64 (D r c))) (h2 : IAt w.heap.size w ac m (fun i => .int .i64 (cash i))) :
    Calls Try.prog 30 #[.agg [.slice ao n c, .slice ac m cm].toArray, .int .i64 party] w fun e w' => e = .returned (.tuple #[.int .i64 0, .int .i64 (chkC n L D m cash)]) ∧ Below w.heap.size w w' := by
  refine calls_of_run (F := [(0, _), (1, _)]) Try.func30 rfl Try.ntmps30 rfl rfl ?_
  have hO0 := Own.init w
  refine run_seq ?_
  refine run_region ?_
  refine rl_ow rfl (ow_box _ rfl rfl rfl rfl rfl hO0) ?_
  rintro _ w1 ⟨b1, rfl, hO2, hs3⟩
  refine rl_v rfl rfl rfl (ov_assign rfl rfl) ?_
  refine rl_v rfl rfl rfl (ov_assign rfl rfl) ?_
  refine rl_nil ?_
  refine run_seq ?_
  refine run_seq ?_
  refine run_region ?_
  refine rl_v rfl rfl rfl (ov_loadW rfl Try.underlying37 rfl (by kernel_rfl) rfl hO2 0 rfl) ?_
  refine rl_call callable_56 rfl rfl rfl rfl rfl rfl (checkCrisis_any ao ac n c m cm L D cash _ hn hm (h.later hO2.below) (h2.later hO2.below)) (fun e4 w5 hp6 => ?_)
  obtain ⟨rfl, hb⟩ := hp6
  refine ⟨_, rfl, ?_⟩
  have hO7 := hO2.past hb
  refine rl_v rfl rfl rfl (ov_assign rfl rfl) ?_
  refine rl_nil ?_
  refine run_seq ?_
  refine run_region ?_
  refine rl_v rfl rfl rfl (ov_move rfl rfl) ?_
  refine rl_v rfl rfl rfl (ov_neq rfl rfl rfl) ?_
  refine rl_nil ?_
  first | refine run_cond_dec rfl (fun h1 => ?_) (fun h1 => ?_) | refine run_cond rfl (fun h1 => ?_) (fun h1 => ?_)
  · refine run_seq ?_
    refine run_region ?_
    refine rl_v rfl rfl rfl (ov_move rfl rfl) ?_
    refine rl_v rfl rfl rfl (ov_assign rfl rfl) ?_
    refine rl_v rfl rfl rfl (ov_assign rfl rfl) ?_
    refine rl_nil ?_
    refine run_ret Try.func30 (res2 Try.results30 rfl rfl) ?_
    exact ⟨rfl, hO7.below⟩
  · exfalso; exact h1 he

theorem arePayments_err (ao ac : Option Addr) (n c m cm : Nat) (pv : Value) (L : Int → Nat) (D : Int → Int → Int) (cash : Int → Int) (w : World) (hn : n ≤ 1000000000000000) (hm : m ≤ 1000000000000000) (he : chkC n L D m cash ≠ 0)
    (h : ITab w.heap.size w ao n L (fun r c => .int .i64 (D r c))) (h2 : IAt w.heap.size w ac m (fun i => .int .i64 (cash i))) :
    Calls Try.prog 64 #[.agg [.slice ao n c, .slice ac m cm].toArray, pv] w fun e w' => e = .returned (.int .i64 (chkC n L D m cash)) ∧ Below w.heap.size w w' := by
  refine calls_of_run (F := [(0, _), (1, _)]) Try.func64 rfl Try.ntmps64 rfl rfl ?_
  have hO0 := Own.init w
  refine run_seq ?_
  refine run_region ?_
  refine rl_ow rfl (ow_box _ rfl rfl rfl rfl rfl hO0) ?_
  rintro _ w1 ⟨b1, rfl, hO2, hs3⟩
  refine rl_v rfl rfl rfl (ov_assign rfl rfl) ?_
  refine rl_nil ?_
  refine run_seq ?_
  refine run_seq ?_
  refine run_region ?_
  refine rl_v rfl rfl rfl (ov_loadW rfl Try.underlying37 rfl (by kernel_rfl) rfl hO2 0 rfl) ?_
  refine rl_call callable_56 rfl rfl rfl rfl rfl rfl (checkCrisis_any ao ac n c m cm L D cash _ hn hm (h.later hO2.below) (h2.later hO2.below)) (fun e4 w5 hp6 => ?_)
  obtain ⟨rfl, hb⟩ := hp6
  refine ⟨_, rfl, ?_⟩
  have hO7 := hO2.past hb
  refine rl_v rfl rfl rfl (ov_assign rfl rfl) ?_
  refine rl_nil ?_
  refine run_seq ?_
  refine run_region ?_
  refine rl_v rfl rfl rfl (ov_move rfl rfl) ?_
  refine rl_v rfl rfl rfl (ov_neq rfl rfl rfl) ?_
  refine rl_nil ?_
  first | refine run_cond_dec rfl (fun h1 => ?_) (fun h1 => ?_) | refine run_cond rfl (fun h1 => ?_) (fun h1 => ?_)
  · refine run_seq ?_
    refine run_region ?_
    refine rl_v rfl rfl rfl (ov_move rfl rfl) ?_
    refine rl_v rfl rfl rfl (ov_assign rfl rfl) ?_
    refine rl_nil ?_
    refine run_ret Try.func64 (res1 Try.results64 rfl) ?_
    exact ⟨rfl, hO7.below⟩
  · exfalso; exact h1 he

theorem Received_err (ao ac : Option Addr) (n c m cm : Nat) (pv : Value) (L : Int → Nat) (D : Int → Int → Int) (cash : Int → Int) (w : World) (hn : n ≤ 1000000000000000) (hm : m ≤ 1000000000000000) (he : chkC n L D m cash ≠ 0)
    (h : ITab w.heap.size w ao n L (fun r c => .int .i64 (D r c))) (h2 : IAt w.heap.size w ac m (fun i => .int .i64 (cash i))) :
    Calls Try.prog 21 #[.agg [.slice ao n c, .slice ac m cm].toArray, pv] w fun e w' => e = .returned (.tuple #[.slice none 0 0, .int .i64 (chkC n L D m cash)]) ∧ Below w.heap.size w w' := by
  refine calls_of_run (F := [(0, _), (1, _)]) Try.func21 rfl Try.ntmps21 rfl rfl ?_
  have hO0 := Own.init w
  refine run_seq ?_
  refine run_region ?_
  refine rl_ow rfl (ow_box _ rfl rfl rfl rfl rfl hO0) ?_
  rintro _ w1 ⟨b1, rfl, hO2, hs3⟩
  refine rl_v rfl rfl rfl (ov_assign rfl rfl) ?_
  refine rl_v rfl rfl rfl (ov_assign rfl rfl) ?_
  refine rl_nil ?_
  refine run_seq ?_
  refine run_seq ?_
  refine run_region ?_
  refine rl_v rfl rfl rfl (ov_loadW rfl Try.underlying37 rfl (by kernel_rfl) rfl hO2 0 rfl) ?_
  refine rl_v rfl rfl rfl (ov_move rfl rfl) ?_
  refine rl_call callable_64 rfl rfl rfl rfl rfl rfl (arePayments_err ao ac n c m cm pv L D cash _ hn hm he (h.later hO2.below) (h2.later hO2.below)) (fun e4 w5 hp6 => ?_)
  obtain ⟨rfl, hb⟩ := hp6
  refine ⟨_, rfl, ?_⟩
  have hO7 := hO2.past hb
  refine rl_v rfl rfl rfl (ov_assign rfl rfl) ?_
  refine rl_nil ?_
  refine run_seq ?_
  refine run_region ?_
  refine rl_v rfl rfl rfl (ov_move rfl rfl) ?_
  refine rl_v rfl rfl rfl (ov_neq rfl rfl rfl) ?_
  refine rl_nil ?_
  first | refine run_cond_dec rfl (fun h1 => ?_) (fun h1 => ?_) | refine run_cond rfl (fun h1 => ?_) (fun h1 => ?_)
  · refine run_seq ?_
    refine run_region ?_
    refine rl_v rfl rfl rfl (ov_move rfl rfl) ?_
    refine rl_v rfl rfl rfl (ov_assign rfl rfl) ?_
    refine rl_v rfl rfl rfl (ov_assign rfl rfl) ?_
    refine rl_nil ?_
    refine run_ret Try.func21 (res2 Try.results21 rfl rfl) ?_
    exact ⟨rfl, hO7.below⟩
  · exfalso; exact h1 he

theorem IsClearing_err (ao ac : Option Addr) (n c m cm : Nat) (pv : Value) (L : Int → Nat) (D : Int → Int → Int) (cash : Int → Int) (w : World) (hn : n ≤ 1000000000000000) (hm : m ≤ 1000000000000000) (he : chkC n L D m cash ≠ 0)
    (h : ITab w.heap.size w ao n L (fun r c => .int .i64 (D r c))) (h2 : IAt w.heap.size w ac m (fun i => .int .i64 (cash i))) :
    Calls Try.prog 25 #[.agg [.slice ao n c, .slice ac m cm].toArray, pv] w fun e w' => e = .returned (.bool false) ∧ Below w.heap.size w w' := by
  refine calls_of_run (F := [(0, _), (1, _)]) Try.func25 rfl Try.ntmps25 rfl rfl ?_
  have hO0 := Own.init w
  refine run_seq ?_
  refine run_region ?_
  refine rl_ow rfl (ow_box _ rfl rfl rfl rfl rfl hO0) ?_
  rintro _ w1 ⟨b1, rfl, hO2, hs3⟩
  refine rl_v rfl rfl rfl (ov_assign rfl rfl) ?_
  refine rl_nil ?_
  refine run_seq ?_
  refine run_seq ?_
  refine run_region ?_
  refine rl_v rfl rfl rfl (ov_loadW rfl Try.underlying37 rfl (by kernel_rfl) rfl hO2 0 rfl) ?_
  refine rl_v rfl rfl rfl (ov_move rfl rfl) ?_
  refine rl_call callable_64 rfl rfl rfl rfl rfl rfl (arePayments_err ao ac n c m cm pv L D cash _ hn hm he (h.later hO2.below) (h2.later hO2.below)) (fun e4 w5 hp6 => ?_)
  obtain ⟨rfl, hb⟩ := hp6
  refine ⟨_, rfl, ?_⟩
  have hO7 := hO2.past hb
  refine rl_v rfl rfl rfl (ov_neq rfl rfl rfl) ?_
  refine rl_nil ?_
  first | refine run_cond_dec rfl (fun h1 => ?_) (fun h1 => ?_) | refine run_cond rfl (fun h1 => ?_) (fun h1 => ?_)
  · refine run_seq ?_
    refine run_region ?_
    refine rl_v rfl rfl rfl (ov_assign rfl rfl) ?_
    refine rl_nil ?_
    refine run_ret Try.func25 (res1 Try.results25 rfl) ?_
    exact ⟨rfl, hO7.below⟩
  · exfalso; exact h1 he

theorem netCrises_any (ao bo : Option Addr) (G Gc R cb : Nat) (L : Int → Nat) (D0 : Int → Int → Int) (c0 : Int → Int) (party : Int) (w : World) (hR : R ≤ cb)
    (h : ITabC w.heap.size w ao G L (fun r c => .int .i64 (D0 r c))) (h2 : IAt w.heap.size w bo R (fun i => .int .i64 (c0 i))) :
    Calls Try.prog 11 #[.agg [.slice ao G Gc, .slice bo R cb].toArray, .int .i64 party] w fun e w' => e = .returned (.bool true) ∧ Below w.heap.size w w' := by
  refine calls_of_run (F := [(0, _), (1, _)]) Try.func11 rfl Try.ntmps11 rfl rfl ?_
  have hO0 := Own.init w
  refine run_seq ?_
  refine run_region ?_
  refine rl_ow rfl (ow_box _ rfl rfl rfl rfl rfl hO0) ?_
  rintro _ w1 ⟨b2, rfl, hO2, hs3⟩
  have hO5 := hO2.nil_cons
  refine rl_v rfl rfl rfl (ov_assign rfl rfl) ?_
  refine rl_nil ?_
  refine run_seq ?_
  refine run_region ?_
  refine rl_v rfl rfl rfl (ov_assign rfl rfl) ?_
  refine rl_nil ?_
  refine run_seq ?_
  refine run_region ?_
  refine rl_v rfl rfl rfl (ov_move rfl rfl) ?_
  refine rl_v rfl rfl rfl (ov_fieldS rfl Try.underlying35 rfl (fo := 1) rfl (by kernel_rfl) rfl) ?_
  refine rl_v rfl rfl rfl (ov_load rfl Try.underlying23 rfl rfl (by first | exact hO5.cellL 1 rfl rfl)) ?_
  refine rl_v rfl rfl rfl (ov_fieldS rfl Try.underlying35 rfl (fo := 1) rfl (by kernel_rfl) rfl) ?_
  refine rl_v rfl rfl rfl (ov_load rfl Try.underlying23 rfl rfl (by first | exact hO5.cellL 1 rfl rfl)) ?_
  refine rl_v rfl rfl rfl (ov_len rfl Try.underlying23 rfl) ?_
  refine rl_v rfl rfl rfl (ov_min rfl rfl rfl) ?_
  refine rl_v rfl rfl rfl (ov_sliceH (min R 40) (s := 1) rfl Try.underlying23 (by kernel_rfl) rfl rfl (by first | rfl | omega) (by omega)) ?_
  refine rl_appSI rfl rfl rfl rfl Try.underlying23 info_2 rfl hO5 0 (IRow.nil 2 (fun j => .int .i64 (zeroI j))) rfl rfl rfl (((h2.below hO5.below).take (by omega))) ⟨by omega, by omega⟩ (fun v5 c5 w4 hO5 hr5 hs6 => ?_)
  refine rl_v rfl rfl rfl (ov_assign rfl rfl) ?_
  refine rl_nil ?_
  refine run_seq ?_
  refine run_region ?_
  refine rl_v rfl rfl rfl (ov_fieldS rfl Try.underlying35 rfl (fo := 0) rfl (by kernel_rfl) rfl) ?_
  refine rl_v rfl rfl rfl (ov_load rfl Try.underlying22 rfl rfl (by first | exact hO5.cellL 1 rfl rfl)) ?_
  refine rl_call callable_39 rfl rfl rfl rfl rfl rfl (table_any ao G Gc 33 L D0 _ (by omega) (h.later hO5.below)) (fun e7 w8 hp9 => ?_)
  obtain ⟨v, H, rfl, hT, hOt⟩ := hp9
  refine ⟨_, rfl, ?_⟩
  have hO10 := hO5.join hOt
  obtain ⟨to, tc, rfl⟩ := hT.val
  rw [Nat.zero_add] at hr5
  obtain ⟨a5, p5, rfl⟩ := hr5.val
  have hIT := hT.reads hO10
  have hOx := hO10.perm List.perm_append_comm
  have hIC := hr5.reads hOx 0 rfl
  have hOA := hO10
  have hI0 := Own.init w8
  refine rl_v rfl rfl rfl (ov_move rfl rfl) ?_
  refine rl_v rfl rfl rfl (ov_buildL rfl lay_35 rfl (us := [_, _]) rfl) ?_
  refine rl_ow rfl (ow_alloc _ rfl rfl rfl zero_35 rfl hI0) ?_
  rintro _ w11 ⟨b6, rfl, hO12, hs13⟩
  refine rl_ow rfl (ow_storeW rfl rfl (by kernel_rfl) hO12 0 rfl rfl (by rfl) rfl (by rfl)) ?_
  rintro _ w14 ⟨rfl, hO15, hs16⟩
  refine rl_nil ?_
  refine run_seq ?_
  refine run_region ?_
  refine rl_v rfl rfl rfl (ov_loadW rfl Try.underlying35 rfl (by kernel_rfl) rfl hO15 0 rfl) ?_
  refine rl_call callable_55 rfl rfl rfl rfl rfl rfl (refCheckCrisis_any to a5 _ tc _ p5 _ _ _ _ (by omega) (by omega) (hIT.later hO15.below) (hIC.later hO15.below)) (fun e17 w18 hp19 => ?_)
  obtain ⟨rfl, hb1⟩ := hp19
  refine ⟨_, rfl, ?_⟩
  have hO20 := hO15.past hb1
  refine rl_v rfl rfl rfl (ov_assign rfl rfl) ?_
  refine rl_nil ?_
  refine run_seq ?_
  refine run_region ?_
  refine rl_v rfl rfl rfl (ov_loadW rfl Try.underlying35 rfl (by kernel_rfl) rfl hO20 0 rfl) ?_
  refine rl_call callable_20 rfl rfl rfl rfl rfl rfl (give_any to a5 _ tc _ p5 _) (fun e21 w22 hp23 => ?_)
  obtain ⟨rfl, hb2⟩ := hp23
  refine ⟨_, rfl, ?_⟩
  have hO24 := hO20.past hb2
  refine rl_ow rfl (ow_alloc _ rfl rfl rfl zero_37 rfl hO24) ?_
  rintro _ w25 ⟨b8, rfl, hO26, hs27⟩
  refine rl_ow rfl (ow_storeW rfl rfl (by kernel_rfl) hO26 0 rfl rfl (by rfl) rfl (by rfl)) ?_
  rintro _ w28 ⟨rfl, hO29, hs30⟩
  refine rl_nil ?_
  refine run_seq ?_
  refine run_seq ?_
  refine run_region ?_
  refine rl_v rfl rfl rfl (ov_loadW rfl Try.underlying37 rfl (by kernel_rfl) rfl hO29 0 rfl) ?_
  refine rl_call callable_56 rfl rfl rfl rfl rfl rfl (checkCrisis_any to a5 _ tc _ p5 _ _ _ _ (by omega) (by omega) (hIT.later hO29.below) (hIC.later hO29.below)) (fun e31 w32 hp33 => ?_)
  obtain ⟨rfl, hb3⟩ := hp33
  refine ⟨_, rfl, ?_⟩
  have hO34 := hO29.past hb3
  refine rl_v rfl rfl rfl (ov_move rfl rfl) ?_
  refine rl_v rfl rfl rfl (ov_neq rfl rfl rfl) ?_
  refine rl_nil ?_
  first | refine run_cond_dec rfl (fun h3 => ?_) (fun h3 => ?_) | refine run_cond rfl (fun h3 => ?_) (fun h3 => ?_)
  · exfalso; exact h3 rfl
  · refine run_skip ?_
    refine run_seq ?_
    refine run_seq ?_
    refine run_region ?_
    refine rl_v rfl rfl rfl (ov_move rfl rfl) ?_
    refine rl_v rfl rfl rfl (ov_eql rfl rfl rfl) ?_
    refine rl_nil ?_
    first | refine run_cond_dec rfl (fun h4 => ?_) (fun h4 => ?_) | refine run_cond rfl (fun h4 => ?_) (fun h4 => ?_)
    · refine run_seq ?_
      refine run_region ?_
      refine rl_call callable_18 rfl rfl rfl rfl rfl rfl (awake_any _) (fun e35 w36 hp37 => ?_)
      obtain ⟨rfl, hb4⟩ := hp37
      refine ⟨_, rfl, ?_⟩
      have hO38 := hO34.past hb4
      refine rl_v rfl rfl rfl (ov_assign rfl rfl) ?_
      refine rl_nil ?_
      refine run_ret Try.func11 (res1 Try.results11 rfl) ?_
      exact ⟨rfl, (hOA.join hO38).below⟩
    · refine run_skip ?_
      refine run_seq ?_
      refine run_region ?_
      refine rl_v rfl rfl rfl (ov_loadW rfl Try.underlying37 rfl (by kernel_rfl) rfl hO34 0 rfl) ?_
      refine rl_call callable_32 rfl rfl rfl rfl rfl rfl (Clear_err to a5 _ tc _ p5 _ _ _ _ (by omega) (by omega) h4 (hIT.later hO34.below) (hIC.later hO34.below)) (fun e39 w40 hp41 => ?_)
      obtain ⟨rfl, hc1⟩ := hp41
      refine ⟨_, rfl, ?_⟩
      have hO42 := hO34.past hc1
      refine rl_v rfl rfl rfl (ov_move rfl rfl) ?_
      refine rl_v rfl rfl rfl (ov_extract rfl rfl (by rfl)) ?_
      refine rl_v rfl rfl rfl (ov_extract rfl rfl (by rfl)) ?_
      refine rl_v rfl rfl rfl (ov_assign rfl rfl) ?_
      refine rl_v rfl rfl rfl (ov_assign rfl rfl) ?_
      refine rl_nil ?_
      refine run_seq ?_
      refine run_region ?_
      refine rl_v rfl rfl rfl (ov_loadW rfl Try.underlying37 rfl (by kernel_rfl) rfl hO42 0 rfl) ?_
      refine rl_call callable_21 rfl rfl rfl rfl rfl rfl (Received_err to a5 _ tc _ p5 _ _ _ _ _ (by omega) (by omega) h4 (hIT.later hO42.below) (hIC.later hO42.below)) (fun e43 w44 hp45 => ?_)
      obtain ⟨rfl, hc2⟩ := hp45
      refine ⟨_, rfl, ?_⟩
      have hO46 := hO42.past hc2
      refine rl_v rfl rfl rfl (ov_move rfl rfl) ?_
      refine rl_v rfl rfl rfl (ov_extract rfl rfl (by rfl)) ?_
      refine rl_v rfl rfl rfl (ov_extract rfl rfl (by rfl)) ?_
      refine rl_v rfl rfl rfl (ov_assign rfl rfl) ?_
      refine rl_v rfl rfl rfl (ov_assign rfl rfl) ?_
      refine rl_nil ?_
      refine run_seq ?_
      refine run_region ?_
      refine rl_v rfl rfl rfl (ov_loadW rfl Try.underlying37 rfl (by kernel_rfl) rfl hO46 0 rfl) ?_
      refine rl_call callable_33 rfl rfl rfl rfl rfl rfl (Failing_err to a5 _ tc _ p5 _ _ _ _ (by omega) (by omega) h4 (hIT.later hO46.below) (hIC.later hO46.below)) (fun e47 w48 hp49 => ?_)
      obtain ⟨rfl, hc3⟩ := hp49
      refine ⟨_, rfl, ?_⟩
      have hO50 := hO46.past hc3
      refine rl_v rfl rfl rfl (ov_move rfl rfl) ?_
      refine rl_v rfl rfl rfl (ov_extract rfl rfl (by rfl)) ?_
      refine rl_v rfl rfl rfl (ov_extract rfl rfl (by rfl)) ?_
      refine rl_v rfl rfl rfl (ov_assign rfl rfl) ?_
      refine rl_v rfl rfl rfl (ov_assign rfl rfl) ?_
      refine rl_nil ?_
      refine run_seq ?_
      refine run_region ?_
      refine rl_v rfl rfl rfl (ov_loadW rfl Try.underlying37 rfl (by kernel_rfl) rfl hO50 0 rfl) ?_
      refine rl_call callable_34 rfl rfl rfl rfl rfl rfl (Worths_err to a5 _ tc _ p5 _ _ _ _ (by omega) (by omega) h4 (hIT.later hO50.below) (hIC.later hO50.below)) (fun e51 w52 hp53 => ?_)
      obtain ⟨rfl, hc4⟩ := hp53
      refine ⟨_, rfl, ?_⟩
      have hO54 := hO50.past hc4
      refine rl_v rfl rfl rfl (ov_move rfl rfl) ?_
      refine rl_v rfl rfl rfl (ov_extract rfl rfl (by rfl)) ?_
      refine rl_v rfl rfl rfl (ov_extract rfl rfl (by rfl)) ?_
      refine rl_v rfl rfl rfl (ov_assign rfl rfl) ?_
      refine rl_v rfl rfl rfl (ov_assign rfl rfl) ?_
      refine rl_nil ?_
      refine run_seq ?_
      refine run_region ?_
      refine rl_v rfl rfl rfl (ov_loadW rfl Try.underlying37 rfl (by kernel_rfl) rfl hO54 0 rfl) ?_
      refine rl_call callable_35 rfl rfl rfl rfl rfl rfl (Waves_err to a5 _ tc _ p5 _ _ _ _ (by omega) (by omega) h4 (hIT.later hO54.below) (hIC.later hO54.below)) (fun e55 w56 hp57 => ?_)
      obtain ⟨rfl, hc5⟩ := hp57
      refine ⟨_, rfl, ?_⟩
      have hO58 := hO54.past hc5
      refine rl_v rfl rfl rfl (ov_move rfl rfl) ?_
      refine rl_v rfl rfl rfl (ov_extract rfl rfl (by rfl)) ?_
      refine rl_v rfl rfl rfl (ov_extract rfl rfl (by rfl)) ?_
      refine rl_v rfl rfl rfl (ov_assign rfl rfl) ?_
      refine rl_v rfl rfl rfl (ov_assign rfl rfl) ?_
      refine rl_nil ?_
      refine run_seq ?_
      refine run_region ?_
      refine rl_v rfl rfl rfl (ov_loadW rfl Try.underlying37 rfl (by kernel_rfl) rfl hO58 0 rfl) ?_
      refine rl_v rfl rfl rfl (ov_move rfl rfl) ?_
      refine rl_call callable_30 rfl rfl rfl rfl rfl rfl (Rescue_err to a5 _ tc _ p5 party _ _ _ _ (by omega) (by omega) h4 (hIT.later hO58.below) (hIC.later hO58.below)) (fun e59 w60 hp61 => ?_)
      obtain ⟨rfl, hc6⟩ := hp61
      refine ⟨_, rfl, ?_⟩
      have hO62 := hO58.past hc6
      refine rl_v rfl rfl rfl (ov_move rfl rfl) ?_
      refine rl_v rfl rfl rfl (ov_extract rfl rfl (by rfl)) ?_
      refine rl_v rfl rfl rfl (ov_extract rfl rfl (by rfl)) ?_
      refine rl_v rfl rfl rfl (ov_assign rfl rfl) ?_
      refine rl_v rfl rfl rfl (ov_assign rfl rfl) ?_
      refine rl_nil ?_
      refine run_seq ?_
      refine run_region ?_
      refine rl_v rfl rfl rfl (ov_move rfl rfl) ?_
      refine rl_v rfl rfl rfl (ov_move rfl rfl) ?_
      refine rl_v rfl rfl rfl (ov_eql rfl rfl rfl) ?_
      refine rl_v rfl rfl rfl (ov_move rfl rfl) ?_
      refine rl_known 80 rfl (rfl) ?_
      refine rl_gv rfl rfl rfl rfl rfl (ov_move rfl rfl) ?_
      refine rl_gv rfl rfl rfl rfl rfl (ov_move rfl rfl) ?_
      refine rl_gv rfl rfl rfl rfl rfl (ov_eql rfl rfl rfl) ?_
      refine rl_v rfl rfl rfl (ov_pick_t rfl rfl rfl) ?_
      refine rl_v rfl rfl rfl (ov_move rfl rfl) ?_
      refine rl_known 85 rfl (rfl) ?_
      refine rl_gv rfl rfl rfl rfl rfl (ov_move rfl rfl) ?_
      refine rl_gv rfl rfl rfl rfl rfl (ov_move rfl rfl) ?_
      refine rl_gv rfl rfl rfl rfl rfl (ov_eql rfl rfl rfl) ?_
      refine rl_v rfl rfl rfl (ov_pick_t rfl rfl rfl) ?_
      refine rl_v rfl rfl rfl (ov_move rfl rfl) ?_
      refine rl_known 90 rfl (rfl) ?_
      refine rl_gv rfl rfl rfl rfl rfl (ov_move rfl rfl) ?_
      refine rl_gv rfl rfl rfl rfl rfl (ov_move rfl rfl) ?_
      refine rl_gv rfl rfl rfl rfl rfl (ov_eql rfl rfl rfl) ?_
      refine rl_v rfl rfl rfl (ov_pick_t rfl rfl rfl) ?_
      refine rl_v rfl rfl rfl (ov_move rfl rfl) ?_
      refine rl_known 95 rfl (rfl) ?_
      refine rl_gv rfl rfl rfl rfl rfl (ov_move rfl rfl) ?_
      refine rl_gv rfl rfl rfl rfl rfl (ov_move rfl rfl) ?_
      refine rl_gv rfl rfl rfl rfl rfl (ov_eql rfl rfl rfl) ?_
      refine rl_v rfl rfl rfl (ov_pick_t rfl rfl rfl) ?_
      refine rl_v rfl rfl rfl (ov_move rfl rfl) ?_
      refine rl_known 100 rfl (rfl) ?_
      refine rl_gv rfl rfl rfl rfl rfl (ov_move rfl rfl) ?_
      refine rl_gv rfl rfl rfl rfl rfl (ov_move rfl rfl) ?_
      refine rl_gv rfl rfl rfl rfl rfl (ov_eql rfl rfl rfl) ?_
      refine rl_v rfl rfl rfl (ov_pick_t rfl rfl rfl) ?_
      refine rl_v rfl rfl rfl (ov_move rfl rfl) ?_
      refine rl_known 105 rfl (rfl) ?_
      refine rl_gv rfl rfl rfl rfl rfl (ov_move rfl rfl) ?_
      refine rl_gv rfl rfl rfl rfl rfl (ov_len rfl Try.underlying23 rfl) ?_
      refine rl_gv rfl rfl rfl rfl rfl (ov_eql rfl rfl rfl) ?_
      refine rl_v rfl rfl rfl (ov_pick_t rfl rfl rfl) ?_
      refine rl_v rfl rfl rfl (ov_move rfl rfl) ?_
      refine rl_known 110 rfl (rfl) ?_
      refine rl_gv rfl rfl rfl rfl rfl (ov_move rfl rfl) ?_
      refine rl_gv rfl rfl rfl rfl rfl (ov_len rfl Try.underlying23 rfl) ?_
      refine rl_gv rfl rfl rfl rfl rfl (ov_eql rfl rfl rfl) ?_
      refine rl_v rfl rfl rfl (ov_pick_t rfl rfl rfl) ?_
      refine rl_v rfl rfl rfl (ov_move rfl rfl) ?_
      refine rl_known 115 rfl (rfl) ?_
      refine rl_gv rfl rfl rfl rfl rfl (ov_move rfl rfl) ?_
      refine rl_gv rfl rfl rfl rfl rfl (ov_len rfl Try.underlying55 rfl) ?_
      refine rl_gv rfl rfl rfl rfl rfl (ov_eql rfl rfl rfl) ?_
      refine rl_v rfl rfl rfl (ov_pick_t rfl rfl rfl) ?_
      refine rl_v rfl rfl rfl (ov_move rfl rfl) ?_
      refine rl_known 120 rfl (rfl) ?_
      refine rl_gv rfl rfl rfl rfl rfl (ov_move rfl rfl) ?_
      refine rl_gv rfl rfl rfl rfl rfl (ov_len rfl Try.underlying23 rfl) ?_
      refine rl_gv rfl rfl rfl rfl rfl (ov_eql rfl rfl rfl) ?_
      refine rl_v rfl rfl rfl (ov_pick_t rfl rfl rfl) ?_
      refine rl_v rfl rfl rfl (ov_move rfl rfl) ?_
      refine rl_known 125 rfl (rfl) ?_
      refine rl_gv rfl rfl rfl rfl rfl (ov_move rfl rfl) ?_
      refine rl_gv rfl rfl rfl rfl rfl (ov_len rfl Try.underlying58 rfl) ?_
      refine rl_gv rfl rfl rfl rfl rfl (ov_eql rfl rfl rfl) ?_
      refine rl_v rfl rfl rfl (ov_pick_t rfl rfl rfl) ?_
      refine rl_v rfl rfl rfl (ov_move rfl rfl) ?_
      refine rl_known 130 rfl (rfl) ?_
      refine rl_gv rfl rfl rfl rfl rfl (ov_move rfl rfl) ?_
      refine rl_gv rfl rfl rfl rfl rfl (ov_eql rfl rfl rfl) ?_
      refine rl_v rfl rfl rfl (ov_pick_t rfl rfl rfl) ?_
      refine rl_v rfl rfl rfl (ov_move rfl rfl) ?_
      refine rl_known 134 rfl (rfl) ?_
      refine rl_gv rfl rfl rfl rfl rfl (ov_loadW rfl Try.underlying37 rfl (by kernel_rfl) rfl hO62 0 rfl) ?_
      refine rl_gv rfl rfl rfl rfl rfl (ov_move rfl rfl) ?_
      refine rl_gcall callable_25 rfl rfl rfl rfl rfl rfl rfl rfl (IsClearing_err to a5 _ tc _ p5 _ _ _ _ _ (by omega) (by omega) h4 (hIT.later hO62.below) (hIC.later hO62.below)) (fun e63 w64 hp65 => ?_)
      obtain ⟨rfl, hc7⟩ := hp65
      refine ⟨_, rfl, ?_⟩
      have hO66 := hO62.past hc7
      refine rl_gv rfl rfl rfl rfl rfl (ov_not rfl rfl) ?_
      refine rl_v rfl rfl rfl (ov_pick_t rfl rfl rfl) ?_
      refine rl_v rfl rfl rfl (ov_move rfl rfl) ?_
      first | refine rl_split_dec 140 rfl (fun hx => ?_) (fun hx => ?_) | refine rl_split 140 rfl (fun hx => ?_) (fun hx => ?_)
      · refine rl_gcall callable_18 rfl rfl rfl rfl rfl rfl rfl rfl (awake_any _) (fun e68 w69 hp70 => ?_)
        obtain ⟨rfl, hb4⟩ := hp70
        refine ⟨_, rfl, ?_⟩
        have hO71 := hO66.past hb4
        refine rl_v rfl rfl rfl (ov_pick_t rfl rfl rfl) ?_
        refine rl_v rfl rfl rfl (ov_assign rfl rfl) ?_
        refine rl_nil ?_
        refine run_ret Try.func11 (res1 Try.results11 rfl) ?_
        exact ⟨rfl, (hOA.join hO71).below⟩
      · exfalso; cases hx
end Go.Proofs.Ytiambddcpflkhaa
