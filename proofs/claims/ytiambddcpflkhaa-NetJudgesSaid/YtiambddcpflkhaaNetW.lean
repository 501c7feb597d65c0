/- Debts that are not valid: every call returns the same error. NetChecks: the walk. -/
import Derived.Test.YtiambddcpflkhaaNetV
set_option maxRecDepth 100000
namespace Go.Proofs.Ytiambddcpflkhaa
open Go.RowKit Go.Proofs

theorem Positions_err (ao : Option Addr) (n c : Nat) (L : Int → Nat) (D : Int → Int → Int) (w : World) (hn : n ≤ 1000000000000000) (he : chk n L D ≠ 0)
    (h : ITab w.heap.size w ao n L (fun r c => .int .i64 (D r c))) :
    Calls Try.prog 43 #[.slice ao n c] w fun e w' => e = .returned (.tuple #[.slice none 0 0, .int .i64 (chk n L D)]) ∧ Below w.heap.size w w' := by
  refine calls_of_run (F := [(0, _)]) Try.func43 rfl Try.ntmps43 rfl rfl ?_
  have hO0 := Own.init w
  refine run_seq ?_
  refine run_region ?_
  refine rl_v rfl rfl rfl (ov_assign rfl rfl) ?_
  refine rl_v rfl rfl rfl (ov_assign rfl rfl) ?_
  refine rl_nil ?_
  refine run_seq ?_
  refine run_seq ?_
  refine run_region ?_
  refine rl_v rfl rfl rfl (ov_move rfl rfl) ?_
  refine rl_call callable_58 rfl rfl rfl rfl rfl rfl (check_any ao n c L D _ hn (h.later hO0.below)) (fun e1 w2 hp3 => ?_)
  obtain ⟨rfl, hb⟩ := hp3
  refine ⟨_, rfl, ?_⟩
  have hO4 := hO0.past hb
  refine rl_v rfl rfl rfl (ov_assign rfl rfl) ?_
  refine rl_nil ?_
  refine run_seq ?_
  refine run_region ?_
  refine rl_v rfl rfl rfl (ov_move rfl rfl) ?_
  refine rl_v rfl rfl rfl (ov_neq rfl rfl rfl) ?_
  refine rl_nil ?_
  first | refine run_cond_dec rfl (fun h1 => ?_) (fun h1 => ?_) | refine run_cond rfl (fun h1 => ?_) (fun h1 => ?_)
  · refine run_seq ?_
    refine run_region ?_
    refine rl_v rfl rfl rfl (ov_move rfl rfl) ?_
    refine rl_v rfl rfl rfl (ov_assign rfl rfl) ?_
    refine rl_v rfl rfl rfl (ov_assign rfl rfl) ?_
    refine rl_nil ?_
    refine run_ret Try.func43 (res2 Try.results43 rfl rfl) ?_
    exact ⟨rfl, hO4.below⟩
  · exfalso; exact h1 he

theorem Cancel_err (ao : Option Addr) (n c : Nat) (L : Int → Nat) (D : Int → Int → Int) (w : World) (hn : n ≤ 1000000000000000) (he : chk n L D ≠ 0)
    (h : ITab w.heap.size w ao n L (fun r c => .int .i64 (D r c))) :
    Calls Try.prog 14 #[.slice ao n c] w fun e w' => e = .returned (.tuple #[.slice none 0 0, .int .i64 0, .int .i64 (chk n L D)]) ∧ Below w.heap.size w w' := by
  refine calls_of_run (F := [(0, _)]) Try.func14 rfl Try.ntmps14 rfl rfl ?_
  have hO0 := Own.init w
  refine run_seq ?_
  refine run_region ?_
  refine rl_v rfl rfl rfl (ov_assign rfl rfl) ?_
  refine rl_v rfl rfl rfl (ov_assign rfl rfl) ?_
  refine rl_v rfl rfl rfl (ov_assign rfl rfl) ?_
  refine rl_nil ?_
  refine run_seq ?_
  refine run_seq ?_
  refine run_region ?_
  refine rl_v rfl rfl rfl (ov_move rfl rfl) ?_
  refine rl_call callable_58 rfl rfl rfl rfl rfl rfl (check_any ao n c L D _ hn (h.later hO0.below)) (fun e1 w2 hp3 => ?_)
  obtain ⟨rfl, hb⟩ := hp3
  refine ⟨_, rfl, ?_⟩
  have hO4 := hO0.past hb
  refine rl_v rfl rfl rfl (ov_assign rfl rfl) ?_
  refine rl_nil ?_
  refine run_seq ?_
  refine run_region ?_
  refine rl_v rfl rfl rfl (ov_move rfl rfl) ?_
  refine rl_v rfl rfl rfl (ov_neq rfl rfl rfl) ?_
  refine rl_nil ?_
  first | refine run_cond_dec rfl (fun h1 => ?_) (fun h1 => ?_) | refine run_cond rfl (fun h1 => ?_) (fun h1 => ?_)
  · refine run_seq ?_
    refine run_region ?_
    refine rl_v rfl rfl rfl (ov_move rfl rfl) ?_
    refine rl_v rfl rfl rfl (ov_assign rfl rfl) ?_
    refine rl_v rfl rfl rfl (ov_assign rfl rfl) ?_
    refine rl_v rfl rfl rfl (ov_assign rfl rfl) ?_
    refine rl_nil ?_
    refine run_ret Try.func14 (res3 Try.results14 rfl rfl rfl) ?_
    exact ⟨rfl, hO4.below⟩
  · exfalso; exact h1 he

theorem Ranks_err (ao : Option Addr) (n c : Nat) (L : Int → Nat) (D : Int → Int → Int) (w : World) (hn : n ≤ 1000000000000000) (he : chk n L D ≠ 0)
    (h : ITab w.heap.size w ao n L (fun r c => .int .i64 (D r c))) :
    Calls Try.prog 50 #[.slice ao n c] w fun e w' => e = .returned (.tuple #[.slice none 0 0, .int .i64 (chk n L D)]) ∧ Below w.heap.size w w' := by
  refine calls_of_run (F := [(0, _)]) Try.func50 rfl Try.ntmps50 rfl rfl ?_
  have hO0 := Own.init w
  refine run_seq ?_
  refine run_region ?_
  refine rl_v rfl rfl rfl (ov_assign rfl rfl) ?_
  refine rl_v rfl rfl rfl (ov_assign rfl rfl) ?_
  refine rl_nil ?_
  refine run_seq ?_
  refine run_seq ?_
  refine run_region ?_
  refine rl_v rfl rfl rfl (ov_move rfl rfl) ?_
  refine rl_call callable_58 rfl rfl rfl rfl rfl rfl (check_any ao n c L D _ hn (h.later hO0.below)) (fun e1 w2 hp3 => ?_)
  obtain ⟨rfl, hb⟩ := hp3
  refine ⟨_, rfl, ?_⟩
  have hO4 := hO0.past hb
  refine rl_v rfl rfl rfl (ov_assign rfl rfl) ?_
  refine rl_nil ?_
  refine run_seq ?_
  refine run_region ?_
  refine rl_v rfl rfl rfl (ov_move rfl rfl) ?_
  refine rl_v rfl rfl rfl (ov_neq rfl rfl rfl) ?_
  refine rl_nil ?_
  first | refine run_cond_dec rfl (fun h1 => ?_) (fun h1 => ?_) | refine run_cond rfl (fun h1 => ?_) (fun h1 => ?_)
  · refine run_seq ?_
    refine run_region ?_
    refine rl_v rfl rfl rfl (ov_move rfl rfl) ?_
    refine rl_v rfl rfl rfl (ov_assign rfl rfl) ?_
    refine rl_v rfl rfl rfl (ov_assign rfl rfl) ?_
    refine rl_nil ?_
    refine run_ret Try.func50 (res2 Try.results50 rfl rfl) ?_
    exact ⟨rfl, hO4.below⟩
  · exfalso; exact h1 he

theorem Bound_err (ao : Option Addr) (n c : Nat) (pv : Value) (L : Int → Nat) (D : Int → Int → Int) (w : World) (hn : n ≤ 1000000000000000) (he : chk n L D ≠ 0)
    (h : ITab w.heap.size w ao n L (fun r c => .int .i64 (D r c))) :
    Calls Try.prog 15 #[.slice ao n c, pv] w fun e w' => e = .returned (.tuple #[.int .i64 0, .int .i64 (chk n L D)]) ∧ Below w.heap.size w w' := by
  refine calls_of_run (F := [(0, _), (1, _)]) Try.func15 rfl Try.ntmps15 rfl rfl ?_
  have hO0 := Own.init w
  refine run_seq ?_
  refine run_region ?_
  refine rl_v rfl rfl rfl (ov_assign rfl rfl) ?_
  refine rl_v rfl rfl rfl (ov_assign rfl rfl) ?_
  refine rl_nil ?_
  refine run_seq ?_
  refine run_seq ?_
  refine run_region ?_
  refine rl_v rfl rfl rfl (ov_move rfl rfl) ?_
  refine rl_call callable_58 rfl rfl rfl rfl rfl rfl (check_any ao n c L D _ hn (h.later hO0.below)) (fun e1 w2 hp3 => ?_)
  obtain ⟨rfl, hb⟩ := hp3
  refine ⟨_, rfl, ?_⟩
  have hO4 := hO0.past hb
  refine rl_v rfl rfl rfl (ov_assign rfl rfl) ?_
  refine rl_nil ?_
  refine run_seq ?_
  refine run_region ?_
  refine rl_v rfl rfl rfl (ov_move rfl rfl) ?_
  refine rl_v rfl rfl rfl (ov_neq rfl rfl rfl) ?_
  refine rl_nil ?_
  first | refine run_cond_dec rfl (fun h1 => ?_) (fun h1 => ?_) | refine run_cond rfl (fun h1 => ?_) (fun h1 => ?_)
  · refine run_seq ?_
    refine run_region ?_
    refine rl_v rfl rfl rfl (ov_move rfl rfl) ?_
    refine rl_v rfl rfl rfl (ov_assign rfl rfl) ?_
    refine rl_v rfl rfl rfl (ov_assign rfl rfl) ?_
    refine rl_nil ?_
    refine run_ret Try.func15 (res2 Try.results15 rfl rfl) ?_
    exact ⟨rfl, hO4.below⟩
  · exfalso; exact h1 he

theorem Ring_err (ao : Option Addr) (n c : Nat) (L : Int → Nat) (D : Int → Int → Int) (w : World) (hn : n ≤ 1000000000000000) (he : chk n L D ≠ 0)
    (h : ITab w.heap.size w ao n L (fun r c => .int .i64 (D r c))) :
    Calls Try.prog 42 #[.slice ao n c] w fun e w' => e = .returned (.tuple #[.slice none 0 0, .bool false]) ∧ Below w.heap.size w w' := by
  refine calls_of_run (F := [(0, _)]) Try.func42 rfl Try.ntmps42 rfl rfl ?_
  have hO0 := Own.init w
  refine run_seq ?_
  refine run_region ?_
  refine rl_ow rfl (ow_box _ rfl rfl rfl rfl rfl hO0) ?_
  rintro _ w1 ⟨b1, rfl, hO2, hs3⟩
  refine rl_v rfl rfl rfl (ov_assign rfl rfl) ?_
  refine rl_v rfl rfl rfl (ov_assign rfl rfl) ?_
  refine rl_nil ?_
  refine run_seq ?_
  refine run_seq ?_
  refine run_region ?_
  refine rl_v rfl rfl rfl (ov_load rfl Try.underlying22 rfl rfl (by first | exact hO2.cellI 0 rfl _ (by omega) (by omega) | exact hO2.cellL 0 rfl rfl | exact hO2.cellI 1 rfl _ (by omega) (by omega) | exact hO2.cellL 1 rfl rfl | exact hO2.cellI 2 rfl _ (by omega) (by omega) | exact hO2.cellL 2 rfl rfl | exact hO2.cellI 3 rfl _ (by omega) (by omega) | exact hO2.cellL 3 rfl rfl | exact hO2.cellI 4 rfl _ (by omega) (by omega) | exact hO2.cellL 4 rfl rfl | exact hO2.cellI 5 rfl _ (by omega) (by omega) | exact hO2.cellL 5 rfl rfl)) ?_
  refine rl_call callable_58 rfl rfl rfl rfl rfl rfl (check_any ao n c L D _ hn (h.later hO2.below)) (fun e4 w5 hp6 => ?_)
  obtain ⟨rfl, hb⟩ := hp6
  refine ⟨_, rfl, ?_⟩
  have hO7 := hO2.past hb
  refine rl_v rfl rfl rfl (ov_neq rfl rfl rfl) ?_
  refine rl_nil ?_
  first | refine run_cond_dec rfl (fun h1 => ?_) (fun h1 => ?_) | refine run_cond rfl (fun h1 => ?_) (fun h1 => ?_)
  · refine run_seq ?_
    refine run_region ?_
    refine rl_v rfl rfl rfl (ov_assign rfl rfl) ?_
    refine rl_v rfl rfl rfl (ov_assign rfl rfl) ?_
    refine rl_nil ?_
    refine run_ret Try.func42 (res2 Try.results42 rfl rfl) ?_
    exact ⟨rfl, hO7.below⟩
  · exfalso; exact h1 he

theorem Settle_err (ao : Option Addr) (n c : Nat) (L : Int → Nat) (D : Int → Int → Int) (w : World) (hn : n ≤ 1000000000000000) (he : chk n L D ≠ 0)
    (h : ITab w.heap.size w ao n L (fun r c => .int .i64 (D r c))) :
    Calls Try.prog 53 #[.slice ao n c] w fun e w' => e = .returned (.tuple #[.slice none 0 0, .int .i64 (chk n L D)]) ∧ Below w.heap.size w w' := by
  refine calls_of_run (F := [(0, _)]) Try.func53 rfl Try.ntmps53 rfl rfl ?_
  have hO0 := Own.init w
  refine run_seq ?_
  refine run_region ?_
  refine rl_v rfl rfl rfl (ov_assign rfl rfl) ?_
  refine rl_v rfl rfl rfl (ov_assign rfl rfl) ?_
  refine rl_nil ?_
  refine run_seq ?_
  refine run_seq ?_
  refine run_region ?_
  refine rl_v rfl rfl rfl (ov_move rfl rfl) ?_
  refine rl_call callable_58 rfl rfl rfl rfl rfl rfl (check_any ao n c L D _ hn (h.later hO0.below)) (fun e1 w2 hp3 => ?_)
  obtain ⟨rfl, hb⟩ := hp3
  refine ⟨_, rfl, ?_⟩
  have hO4 := hO0.past hb
  refine rl_v rfl rfl rfl (ov_assign rfl rfl) ?_
  refine rl_nil ?_
  refine run_seq ?_
  refine run_region ?_
  refine rl_v rfl rfl rfl (ov_move rfl rfl) ?_
  refine rl_v rfl rfl rfl (ov_neq rfl rfl rfl) ?_
  refine rl_nil ?_
  first | refine run_cond_dec rfl (fun h1 => ?_) (fun h1 => ?_) | refine run_cond rfl (fun h1 => ?_) (fun h1 => ?_)
  · refine run_seq ?_
    refine run_region ?_
    refine rl_v rfl rfl rfl (ov_move rfl rfl) ?_
    refine rl_v rfl rfl rfl (ov_assign rfl rfl) ?_
    refine rl_v rfl rfl rfl (ov_assign rfl rfl) ?_
    refine rl_nil ?_
    refine run_ret Try.func53 (res2 Try.results53 rfl rfl) ?_
    exact ⟨rfl, hO4.below⟩
  · exfalso; exact h1 he

theorem Pairwise_err (ao : Option Addr) (n c : Nat) (L : Int → Nat) (D : Int → Int → Int) (w : World) (hn : n ≤ 1000000000000000) (he : chk n L D ≠ 0)
    (h : ITab w.heap.size w ao n L (fun r c => .int .i64 (D r c))) :
    Calls Try.prog 44 #[.slice ao n c] w fun e w' => e = .returned (.tuple #[.slice none 0 0, .int .i64 (chk n L D)]) ∧ Below w.heap.size w w' := by
  refine calls_of_run (F := [(0, _)]) Try.func44 rfl Try.ntmps44 rfl rfl ?_
  have hO0 := Own.init w
  refine run_seq ?_
  refine run_region ?_
  refine rl_v rfl rfl rfl (ov_assign rfl rfl) ?_
  refine rl_v rfl rfl rfl (ov_assign rfl rfl) ?_
  refine rl_nil ?_
  refine run_seq ?_
  refine run_seq ?_
  refine run_region ?_
  refine rl_v rfl rfl rfl (ov_move rfl rfl) ?_
  refine rl_call callable_58 rfl rfl rfl rfl rfl rfl (check_any ao n c L D _ hn (h.later hO0.below)) (fun e1 w2 hp3 => ?_)
  obtain ⟨rfl, hb⟩ := hp3
  refine ⟨_, rfl, ?_⟩
  have hO4 := hO0.past hb
  refine rl_v rfl rfl rfl (ov_assign rfl rfl) ?_
  refine rl_nil ?_
  refine run_seq ?_
  refine run_region ?_
  refine rl_v rfl rfl rfl (ov_move rfl rfl) ?_
  refine rl_v rfl rfl rfl (ov_neq rfl rfl rfl) ?_
  refine rl_nil ?_
  first | refine run_cond_dec rfl (fun h1 => ?_) (fun h1 => ?_) | refine run_cond rfl (fun h1 => ?_) (fun h1 => ?_)
  · refine run_seq ?_
    refine run_region ?_
    refine rl_v rfl rfl rfl (ov_move rfl rfl) ?_
    refine rl_v rfl rfl rfl (ov_assign rfl rfl) ?_
    refine rl_v rfl rfl rfl (ov_assign rfl rfl) ?_
    refine rl_nil ?_
    refine run_ret Try.func44 (res2 Try.results44 rfl rfl) ?_
    exact ⟨rfl, hO4.below⟩
  · exfalso; exact h1 he

theorem IsCancelling_err (ao : Option Addr) (n c : Nat) (pv : Value) (L : Int → Nat) (D : Int → Int → Int) (w : World) (hn : n ≤ 1000000000000000) (he : chk n L D ≠ 0)
    (h : ITab w.heap.size w ao n L (fun r c => .int .i64 (D r c))) :
    Calls Try.prog 40 #[.slice ao n c, pv] w fun e w' => e = .returned (.bool false) ∧ Below w.heap.size w w' := by
  refine calls_of_run (F := [(0, _), (1, _)]) Try.func40 rfl Try.ntmps40 rfl rfl ?_
  have hO0 := Own.init w
  refine run_seq ?_
  refine run_region ?_
  refine rl_v rfl rfl rfl (ov_assign rfl rfl) ?_
  refine rl_nil ?_
  refine run_seq ?_
  refine run_seq ?_
  refine run_region ?_
  refine rl_v rfl rfl rfl (ov_move rfl rfl) ?_
  refine rl_call callable_58 rfl rfl rfl rfl rfl rfl (check_any ao n c L D _ hn (h.later hO0.below)) (fun e1 w2 hp3 => ?_)
  obtain ⟨rfl, hb⟩ := hp3
  refine ⟨_, rfl, ?_⟩
  have hO4 := hO0.past hb
  refine rl_v rfl rfl rfl (ov_neq rfl rfl rfl) ?_
  refine rl_v rfl rfl rfl (ov_move rfl rfl) ?_
  refine rl_known 13 rfl (he) ?_
  refine rl_gskip rfl rfl rfl rfl rfl rfl ?_
  refine rl_gskip rfl rfl rfl rfl rfl rfl ?_
  refine rl_gskip rfl rfl rfl rfl rfl rfl ?_
  refine rl_gskip rfl rfl rfl rfl rfl rfl ?_
  refine rl_gskip rfl rfl rfl rfl rfl rfl ?_
  refine rl_v rfl rfl rfl (ov_pick_t rfl rfl rfl) ?_
  refine rl_nil ?_
  refine run_cond_t rfl ?_
  refine run_seq ?_
  refine run_region ?_
  refine rl_v rfl rfl rfl (ov_assign rfl rfl) ?_
  refine rl_nil ?_
  refine run_ret Try.func40 (res1 Try.results40 rfl) ?_
  exact ⟨rfl, hO4.below⟩

theorem netChecks_any (ao : Option Addr) (G Gc : Nat) (L : Int → Nat) (D0 : Int → Int → Int) (w : World)
    (h : ITabC w.heap.size w ao G L (fun r c => .int .i64 (D0 r c))) :
    Calls Try.prog 12 #[.slice ao G Gc] w fun e w' => e = .returned (.bool true) ∧ Below w.heap.size w w' := by
  refine calls_of_run (F := [(0, _)]) Try.func12 rfl Try.ntmps12 rfl rfl ?_
  have hO0 := Own.init w
  refine run_seq ?_
  refine run_region ?_
  refine rl_v rfl rfl rfl (ov_assign rfl rfl) ?_
  refine rl_nil ?_
  refine run_seq ?_
  refine run_region ?_
  refine rl_v rfl rfl rfl (ov_move rfl rfl) ?_
  refine rl_call callable_39 rfl rfl rfl rfl rfl rfl (table_any ao G Gc 33 L D0 _ (by omega) (h.later hO0.below)) (fun e1 w2 hp3 => ?_)
  obtain ⟨v, H, rfl, hT, hOt⟩ := hp3
  refine ⟨_, rfl, ?_⟩
  have hO4 := hO0.join hOt
  obtain ⟨to, tc, rfl⟩ := hT.val
  have hIT := hT.reads hO4
  have hOA := hO4
  have hI0 := Own.init w2
  refine rl_v rfl rfl rfl (ov_assign rfl rfl) ?_
  refine rl_nil ?_
  refine run_seq ?_
  refine run_region ?_
  refine rl_v rfl rfl rfl (ov_move rfl rfl) ?_
  refine rl_call callable_57 rfl rfl rfl rfl rfl rfl (refCheck_any to _ tc _ _ _ (by omega) (hIT.later hI0.below)) (fun e5 w6 hp7 => ?_)
  obtain ⟨rfl, hb1⟩ := hp7
  refine ⟨_, rfl, ?_⟩
  have hO8 := hI0.past hb1
  refine rl_v rfl rfl rfl (ov_assign rfl rfl) ?_
  refine rl_nil ?_
  refine run_seq ?_
  refine run_seq ?_
  refine run_region ?_
  refine rl_v rfl rfl rfl (ov_move rfl rfl) ?_
  refine rl_call callable_58 rfl rfl rfl rfl rfl rfl (check_any to _ tc _ _ _ (by omega) (hIT.later hO8.below)) (fun e9 w10 hp11 => ?_)
  obtain ⟨rfl, hb2⟩ := hp11
  refine ⟨_, rfl, ?_⟩
  have hO12 := hO8.past hb2
  refine rl_v rfl rfl rfl (ov_move rfl rfl) ?_
  refine rl_v rfl rfl rfl (ov_neq rfl rfl rfl) ?_
  refine rl_nil ?_
  first | refine run_cond_dec rfl (fun h3 => ?_) (fun h3 => ?_) | refine run_cond rfl (fun h3 => ?_) (fun h3 => ?_)
  · exfalso; exact h3 rfl
  · refine run_skip ?_
    refine run_seq ?_
    refine run_seq ?_
    refine run_region ?_
    refine rl_v rfl rfl rfl (ov_move rfl rfl) ?_
    refine rl_v rfl rfl rfl (ov_eql rfl rfl rfl) ?_
    refine rl_nil ?_
    first | refine run_cond_dec rfl (fun h4 => ?_) (fun h4 => ?_) | refine run_cond rfl (fun h4 => ?_) (fun h4 => ?_)
    · refine run_seq ?_
      refine run_region ?_
      refine rl_call callable_18 rfl rfl rfl rfl rfl rfl (awake_any _) (fun e13 w14 hp15 => ?_)
      obtain ⟨rfl, hb4⟩ := hp15
      refine ⟨_, rfl, ?_⟩
      have hO16 := hO12.past hb4
      refine rl_v rfl rfl rfl (ov_assign rfl rfl) ?_
      refine rl_nil ?_
      refine run_ret Try.func12 (res1 Try.results12 rfl) ?_
      exact ⟨rfl, (hOA.join hO16).below⟩
    · refine run_skip ?_
      refine run_seq ?_
      refine run_region ?_
      refine rl_v rfl rfl rfl (ov_move rfl rfl) ?_
      refine rl_call callable_43 rfl rfl rfl rfl rfl rfl (Positions_err to _ tc _ _ _ (by omega) h4 (hIT.later hO12.below)) (fun e17 w18 hp19 => ?_)
      obtain ⟨rfl, hc1⟩ := hp19
      refine ⟨_, rfl, ?_⟩
      have hO20 := hO12.past hc1
      refine rl_v rfl rfl rfl (ov_move rfl rfl) ?_
      refine rl_v rfl rfl rfl (ov_extract rfl rfl (by rfl)) ?_
      refine rl_v rfl rfl rfl (ov_extract rfl rfl (by rfl)) ?_
      refine rl_v rfl rfl rfl (ov_assign rfl rfl) ?_
      refine rl_v rfl rfl rfl (ov_assign rfl rfl) ?_
      refine rl_nil ?_
      refine run_seq ?_
      refine run_region ?_
      refine rl_v rfl rfl rfl (ov_move rfl rfl) ?_
      refine rl_call callable_14 rfl rfl rfl rfl rfl rfl (Cancel_err to _ tc _ _ _ (by omega) h4 (hIT.later hO20.below)) (fun e21 w22 hp23 => ?_)
      obtain ⟨rfl, hc2⟩ := hp23
      refine ⟨_, rfl, ?_⟩
      have hO24 := hO20.past hc2
      refine rl_v rfl rfl rfl (ov_move rfl rfl) ?_
      refine rl_v rfl rfl rfl (ov_extract rfl rfl (by rfl)) ?_
      refine rl_v rfl rfl rfl (ov_extract rfl rfl (by rfl)) ?_
      refine rl_v rfl rfl rfl (ov_extract rfl rfl (by rfl)) ?_
      refine rl_v rfl rfl rfl (ov_assign rfl rfl) ?_
      refine rl_v rfl rfl rfl (ov_assign rfl rfl) ?_
      refine rl_v rfl rfl rfl (ov_assign rfl rfl) ?_
      refine rl_nil ?_
      refine run_seq ?_
      refine run_region ?_
      refine rl_v rfl rfl rfl (ov_move rfl rfl) ?_
      refine rl_call callable_50 rfl rfl rfl rfl rfl rfl (Ranks_err to _ tc _ _ _ (by omega) h4 (hIT.later hO24.below)) (fun e25 w26 hp27 => ?_)
      obtain ⟨rfl, hc3⟩ := hp27
      refine ⟨_, rfl, ?_⟩
      have hO28 := hO24.past hc3
      refine rl_v rfl rfl rfl (ov_move rfl rfl) ?_
      refine rl_v rfl rfl rfl (ov_extract rfl rfl (by rfl)) ?_
      refine rl_v rfl rfl rfl (ov_extract rfl rfl (by rfl)) ?_
      refine rl_v rfl rfl rfl (ov_assign rfl rfl) ?_
      refine rl_v rfl rfl rfl (ov_assign rfl rfl) ?_
      refine rl_nil ?_
      refine run_seq ?_
      refine run_region ?_
      refine rl_v rfl rfl rfl (ov_move rfl rfl) ?_
      refine rl_call callable_15 rfl rfl rfl rfl rfl rfl (Bound_err to _ tc _ _ _ _ (by omega) h4 (hIT.later hO28.below)) (fun e29 w30 hp31 => ?_)
      obtain ⟨rfl, hc4⟩ := hp31
      refine ⟨_, rfl, ?_⟩
      have hO32 := hO28.past hc4
      refine rl_v rfl rfl rfl (ov_move rfl rfl) ?_
      refine rl_v rfl rfl rfl (ov_extract rfl rfl (by rfl)) ?_
      refine rl_v rfl rfl rfl (ov_extract rfl rfl (by rfl)) ?_
      refine rl_v rfl rfl rfl (ov_assign rfl rfl) ?_
      refine rl_v rfl rfl rfl (ov_assign rfl rfl) ?_
      refine rl_nil ?_
      refine run_seq ?_
      refine run_region ?_
      refine rl_v rfl rfl rfl (ov_move rfl rfl) ?_
      refine rl_call callable_42 rfl rfl rfl rfl rfl rfl (Ring_err to _ tc _ _ _ (by omega) h4 (hIT.later hO32.below)) (fun e33 w34 hp35 => ?_)
      obtain ⟨rfl, hc5⟩ := hp35
      refine ⟨_, rfl, ?_⟩
      have hO36 := hO32.past hc5
      refine rl_v rfl rfl rfl (ov_move rfl rfl) ?_
      refine rl_v rfl rfl rfl (ov_extract rfl rfl (by rfl)) ?_
      refine rl_v rfl rfl rfl (ov_extract rfl rfl (by rfl)) ?_
      refine rl_v rfl rfl rfl (ov_assign rfl rfl) ?_
      refine rl_v rfl rfl rfl (ov_assign rfl rfl) ?_
      refine rl_nil ?_
      refine run_seq ?_
      refine run_region ?_
      refine rl_v rfl rfl rfl (ov_move rfl rfl) ?_
      refine rl_call callable_53 rfl rfl rfl rfl rfl rfl (Settle_err to _ tc _ _ _ (by omega) h4 (hIT.later hO36.below)) (fun e37 w38 hp39 => ?_)
      obtain ⟨rfl, hc6⟩ := hp39
      refine ⟨_, rfl, ?_⟩
      have hO40 := hO36.past hc6
      refine rl_v rfl rfl rfl (ov_move rfl rfl) ?_
      refine rl_v rfl rfl rfl (ov_extract rfl rfl (by rfl)) ?_
      refine rl_v rfl rfl rfl (ov_extract rfl rfl (by rfl)) ?_
      refine rl_v rfl rfl rfl (ov_assign rfl rfl) ?_
      refine rl_v rfl rfl rfl (ov_assign rfl rfl) ?_
      refine rl_nil ?_
      refine run_seq ?_
      refine run_region ?_
      refine rl_v rfl rfl rfl (ov_move rfl rfl) ?_
      refine rl_call callable_44 rfl rfl rfl rfl rfl rfl (Pairwise_err to _ tc _ _ _ (by omega) h4 (hIT.later hO40.below)) (fun e41 w42 hp43 => ?_)
      obtain ⟨rfl, hc7⟩ := hp43
      refine ⟨_, rfl, ?_⟩
      have hO44 := hO40.past hc7
      refine rl_v rfl rfl rfl (ov_move rfl rfl) ?_
      refine rl_v rfl rfl rfl (ov_extract rfl rfl (by rfl)) ?_
      refine rl_v rfl rfl rfl (ov_extract rfl rfl (by rfl)) ?_
      refine rl_v rfl rfl rfl (ov_assign rfl rfl) ?_
      refine rl_v rfl rfl rfl (ov_assign rfl rfl) ?_
      refine rl_nil ?_
      refine run_seq ?_
      refine run_region ?_
      refine rl_v rfl rfl rfl (ov_move rfl rfl) ?_
      refine rl_v rfl rfl rfl (ov_move rfl rfl) ?_
      refine rl_v rfl rfl rfl (ov_eql rfl rfl rfl) ?_
      refine rl_v rfl rfl rfl (ov_move rfl rfl) ?_
      refine rl_known 70 rfl (rfl) ?_
      refine rl_gv rfl rfl rfl rfl rfl (ov_move rfl rfl) ?_
      refine rl_gv rfl rfl rfl rfl rfl (ov_move rfl rfl) ?_
      refine rl_gv rfl rfl rfl rfl rfl (ov_eql rfl rfl rfl) ?_
      refine rl_v rfl rfl rfl (ov_pick_t rfl rfl rfl) ?_
      refine rl_v rfl rfl rfl (ov_move rfl rfl) ?_
      refine rl_known 75 rfl (rfl) ?_
      refine rl_gv rfl rfl rfl rfl rfl (ov_move rfl rfl) ?_
      refine rl_gv rfl rfl rfl rfl rfl (ov_move rfl rfl) ?_
      refine rl_gv rfl rfl rfl rfl rfl (ov_eql rfl rfl rfl) ?_
      refine rl_v rfl rfl rfl (ov_pick_t rfl rfl rfl) ?_
      refine rl_v rfl rfl rfl (ov_move rfl rfl) ?_
      refine rl_known 80 rfl (rfl) ?_
      refine rl_gv rfl rfl rfl rfl rfl (ov_move rfl rfl) ?_
      refine rl_gv rfl rfl rfl rfl rfl (ov_move rfl rfl) ?_
      refine rl_gv rfl rfl rfl rfl rfl (ov_eql rfl rfl rfl) ?_
      refine rl_v rfl rfl rfl (ov_pick_t rfl rfl rfl) ?_
      refine rl_v rfl rfl rfl (ov_move rfl rfl) ?_
      refine rl_known 85 rfl (rfl) ?_
      refine rl_gv rfl rfl rfl rfl rfl (ov_move rfl rfl) ?_
      refine rl_gv rfl rfl rfl rfl rfl (ov_move rfl rfl) ?_
      refine rl_gv rfl rfl rfl rfl rfl (ov_eql rfl rfl rfl) ?_
      refine rl_v rfl rfl rfl (ov_pick_t rfl rfl rfl) ?_
      refine rl_v rfl rfl rfl (ov_move rfl rfl) ?_
      refine rl_known 90 rfl (rfl) ?_
      refine rl_gv rfl rfl rfl rfl rfl (ov_move rfl rfl) ?_
      refine rl_gv rfl rfl rfl rfl rfl (ov_move rfl rfl) ?_
      refine rl_gv rfl rfl rfl rfl rfl (ov_eql rfl rfl rfl) ?_
      refine rl_v rfl rfl rfl (ov_pick_t rfl rfl rfl) ?_
      refine rl_v rfl rfl rfl (ov_move rfl rfl) ?_
      refine rl_known 95 rfl (rfl) ?_
      refine rl_gv rfl rfl rfl rfl rfl (ov_move rfl rfl) ?_
      refine rl_gv rfl rfl rfl rfl rfl (ov_len rfl Try.underlying23 rfl) ?_
      refine rl_gv rfl rfl rfl rfl rfl (ov_eql rfl rfl rfl) ?_
      refine rl_v rfl rfl rfl (ov_pick_t rfl rfl rfl) ?_
      refine rl_v rfl rfl rfl (ov_move rfl rfl) ?_
      refine rl_known 100 rfl (rfl) ?_
      refine rl_gv rfl rfl rfl rfl rfl (ov_move rfl rfl) ?_
      refine rl_gv rfl rfl rfl rfl rfl (ov_len rfl Try.underlying22 rfl) ?_
      refine rl_gv rfl rfl rfl rfl rfl (ov_eql rfl rfl rfl) ?_
      refine rl_v rfl rfl rfl (ov_pick_t rfl rfl rfl) ?_
      refine rl_v rfl rfl rfl (ov_move rfl rfl) ?_
      refine rl_known 105 rfl (rfl) ?_
      refine rl_gv rfl rfl rfl rfl rfl (ov_move rfl rfl) ?_
      refine rl_gv rfl rfl rfl rfl rfl (ov_eql rfl rfl rfl) ?_
      refine rl_v rfl rfl rfl (ov_pick_t rfl rfl rfl) ?_
      refine rl_v rfl rfl rfl (ov_move rfl rfl) ?_
      refine rl_known 109 rfl (rfl) ?_
      refine rl_gv rfl rfl rfl rfl rfl (ov_move rfl rfl) ?_
      refine rl_gv rfl rfl rfl rfl rfl (ov_len rfl Try.underlying23 rfl) ?_
      refine rl_gv rfl rfl rfl rfl rfl (ov_eql rfl rfl rfl) ?_
      refine rl_v rfl rfl rfl (ov_pick_t rfl rfl rfl) ?_
      refine rl_v rfl rfl rfl (ov_move rfl rfl) ?_
      refine rl_known 114 rfl (rfl) ?_
      refine rl_gv rfl rfl rfl rfl rfl (ov_move rfl rfl) ?_
      refine rl_gv rfl rfl rfl rfl rfl (ov_eql rfl rfl rfl) ?_
      refine rl_v rfl rfl rfl (ov_pick_t rfl rfl rfl) ?_
      refine rl_v rfl rfl rfl (ov_move rfl rfl) ?_
      refine rl_known 118 rfl (rfl) ?_
      refine rl_gv rfl rfl rfl rfl rfl (ov_move rfl rfl) ?_
      refine rl_gv rfl rfl rfl rfl rfl (ov_len rfl Try.underlying55 rfl) ?_
      refine rl_gv rfl rfl rfl rfl rfl (ov_eql rfl rfl rfl) ?_
      refine rl_v rfl rfl rfl (ov_pick_t rfl rfl rfl) ?_
      refine rl_v rfl rfl rfl (ov_move rfl rfl) ?_
      refine rl_known 123 rfl (rfl) ?_
      refine rl_gv rfl rfl rfl rfl rfl (ov_move rfl rfl) ?_
      refine rl_gv rfl rfl rfl rfl rfl (ov_not rfl rfl) ?_
      refine rl_v rfl rfl rfl (ov_pick_t rfl rfl rfl) ?_
      refine rl_v rfl rfl rfl (ov_move rfl rfl) ?_
      first | refine rl_split_dec 127 rfl (fun hy => ?_) (fun hy => ?_) | refine rl_split 127 rfl (fun hy => ?_) (fun hy => ?_)
      · refine rl_gv rfl rfl rfl rfl rfl (ov_move rfl rfl) ?_
        refine rl_gv rfl rfl rfl rfl rfl (ov_len rfl Try.underlying79 rfl) ?_
        refine rl_gv rfl rfl rfl rfl rfl (ov_eql rfl rfl rfl) ?_
        refine rl_v rfl rfl rfl (ov_pick_t rfl rfl rfl) ?_
        refine rl_v rfl rfl rfl (ov_move rfl rfl) ?_
        refine rl_known 132 rfl (rfl) ?_
        refine rl_gv rfl rfl rfl rfl rfl (ov_move rfl rfl) ?_
        refine rl_gv rfl rfl rfl rfl rfl (ov_len rfl Try.underlying22 rfl) ?_
        refine rl_gv rfl rfl rfl rfl rfl (ov_eql rfl rfl rfl) ?_
        refine rl_v rfl rfl rfl (ov_pick_t rfl rfl rfl) ?_
        refine rl_v rfl rfl rfl (ov_move rfl rfl) ?_
        refine rl_known 137 rfl (rfl) ?_
        refine rl_gv rfl rfl rfl rfl rfl (ov_move rfl rfl) ?_
        refine rl_gv rfl rfl rfl rfl rfl (ov_move rfl rfl) ?_
        refine rl_gcall callable_40 rfl rfl rfl rfl rfl rfl rfl rfl (IsCancelling_err to _ tc _ _ _ _ (by omega) h4 (hIT.later hO44.below)) (fun e46 w47 hp48 => ?_)
        obtain ⟨rfl, hc8⟩ := hp48
        refine ⟨_, rfl, ?_⟩
        have hO49 := hO44.past hc8
        refine rl_gv rfl rfl rfl rfl rfl (ov_not rfl rfl) ?_
        refine rl_v rfl rfl rfl (ov_pick_t rfl rfl rfl) ?_
        refine rl_v rfl rfl rfl (ov_move rfl rfl) ?_
        first | refine rl_split_dec 143 rfl (fun hx => ?_) (fun hx => ?_) | refine rl_split 143 rfl (fun hx => ?_) (fun hx => ?_)
        · refine rl_gcall callable_18 rfl rfl rfl rfl rfl rfl rfl rfl (awake_any _) (fun e51 w52 hp53 => ?_)
          obtain ⟨rfl, hb4⟩ := hp53
          refine ⟨_, rfl, ?_⟩
          have hO54 := hO49.past hb4
          refine rl_v rfl rfl rfl (ov_pick_t rfl rfl rfl) ?_
          refine rl_v rfl rfl rfl (ov_assign rfl rfl) ?_
          refine rl_nil ?_
          refine run_ret Try.func12 (res1 Try.results12 rfl) ?_
          exact ⟨rfl, (hOA.join hO54).below⟩
        · exfalso; cases hx
      · exfalso; cases hy
end Go.Proofs.Ytiambddcpflkhaa
