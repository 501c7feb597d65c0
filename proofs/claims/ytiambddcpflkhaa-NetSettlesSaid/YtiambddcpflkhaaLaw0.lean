/- tame, table, longs, ints, tables: the small functions of the statements' package. -/
import Derived.Test.YtiambddcpflkhaaTab
import Derived.Test.YtiambddcpflkhaaFacts
namespace Go.Proofs.Ytiambddcpflkhaa
open Go.RowKit Go.Proofs

theorem mod_le (v t : Int) (ht : 0 ≤ t) (h2 : t ≤ 1000000) : 0 ≤ IntKind.i64.wrap (IntKind.u64.wrap v % IntKind.u64.wrap (t + 1)) ∧ IntKind.i64.wrap (IntKind.u64.wrap v % IntKind.u64.wrap (t + 1)) ≤ t := by
  have e : IntKind.u64.wrap (t + 1) = t + 1 := IntWalk.u64_in _ (by omega)
  rw [e]
  have h3 := Int.emod_lt_of_pos (IntKind.u64.wrap v) (show 0 < t + 1 by omega)
  have h4 := Int.emod_nonneg (IntKind.u64.wrap v) (show t + 1 ≠ 0 by omega)
  rw [IntWalk.i64_in _ (by omega)]
  omega
theorem wrap_u64_nonneg (v : Int) : 0 ≤ IntKind.u64.wrap v := by
  rw [IntKind.wrap_u64]; omega
theorem wrap_u64_pos (t : Int) (ht : 0 ≤ t) (h2 : t ≤ 1000000) : IntKind.u64.wrap (t + 1) ≠ 0 := by
  rw [IntWalk.u64_in _ (by omega)]; omega

theorem tame_any (ao : Option Addr) (G Gc : Nat) (most top : Int) (L : Int → Nat) (D : Int → Int → Int) (w : World)
    (hm1 : 1 ≤ most) (hm2 : most ≤ 100) (ht : 0 ≤ top ∧ top ≤ 1000000)
    (h : ITab w.heap.size w ao G L (fun r c => .int .i64 (D r c))) :
    Calls Try.prog 13 #[.slice ao G Gc, .int .i64 most, .int .i64 top] w fun e w' =>
      ∃ (v : Value) (n : Nat) (D' : Int → Int → Int) (H : List (Option Blk)), e = .returned v ∧ OTab v 23 2 n (fun _ => n) (fun r c => .int .i64 (D' r c)) H ∧ Own w.heap.size w w' H ∧ 1 ≤ n ∧ n ≤ most ∧ (∀ r c, 0 ≤ D' r c ∧ D' r c ≤ top) ∧ ∀ r, D' r r = 0 := by
  obtain ⟨A, C, RB, RO, gb, go, hga, hrow, hra, hel, _⟩ := h.open
  obtain ⟨n, hn⟩ : ∃ n : Nat, max 1 (min (G : Int) most) = n := ⟨(max 1 (min (G : Int) most)).toNat, by omega⟩
  refine calls_of_run (F := [(0, _), (1, _), (2, _)]) Try.func13 rfl Try.ntmps13 rfl rfl ?_
  have hO0 := Own.init w
  refine run_seq ?_
  refine run_region ?_
  refine rl_v rfl rfl rfl (ov_assign rfl rfl) ?_
  refine rl_nil ?_
  refine run_seq ?_
  refine run_region ?_
  refine rl_v rfl rfl rfl (ov_move rfl rfl) ?_
  refine rl_v rfl rfl rfl (ov_len rfl Try.underlying22 rfl) ?_
  refine rl_v rfl rfl rfl (ov_move rfl rfl) ?_
  refine rl_v rfl rfl rfl (ov_min rfl rfl rfl) ?_
  refine rl_v rfl rfl rfl (ov_max rfl rfl rfl) ?_
  refine rl_v rfl rfl rfl (ov_assign rfl rfl) ?_
  refine rl_nil ?_
  refine run_seq ?_
  refine run_region ?_
  refine rl_v rfl rfl rfl (ov_assign rfl rfl) ?_
  refine rl_nil ?_
  refine run_seq ?_
  refine run_seq ?_
  refine run_region ?_
  refine rl_v rfl rfl rfl (ov_assign rfl rfl) ?_
  refine rl_nil ?_
  refine run_block ?_
  refine Run.keep [0, 2, 7, 8, 9] (F' := [(0, _), (2, _), (7, _), (8, _), (9, _)]) rfl ?_
  refine run_loop5 (fun (v : Value) (k : Int) (m : Nat) (D' : Int → Int → Int) (H : List (Option Blk)) => [(8, v), (9, .int .i64 k)]) [0, 2, 7] (fun (v : Value) (k : Int) (m : Nat) (D' : Int → Int → Int) (H : List (Option Blk)) (w1 : World) => k = m ∧ k ≤ n ∧ OTab v 23 2 m (fun _ => n) (fun r c => .int .i64 (D' r c)) H ∧ Own w.heap.size w w1 H ∧ (∀ r c, 0 ≤ D' r c ∧ D' r c ≤ top) ∧ ∀ r, D' r r = 0) (fun (v : Value) (k : Int) (m : Nat) (D' : Int → Int → Int) (H : List (Option Blk)) => n - m) (.slice none 0 0) (0) (0) (fun _ _ => 0) ([none]) ?_ (And.intro rfl (And.intro (by first | with_reducible rfl | exact slot_int rfl (by first | omega) | rfl) (And.intro rfl (And.intro rfl (And.intro rfl trivial))))) ?_
  · exact ⟨rfl, by omega, OTab.nil _ _ _ _, hO0.nil_cons, fun _ _ => ⟨Int.le_refl _, ht.1⟩, fun _ => rfl⟩
  intro v k m D' H w1 hIw1 ih2
  obtain ⟨hm, hk, hT, hO, hD1, hD2⟩ := hIw1
  show Run _ _ _ _ [(8, _), (9, _), (0, _), (2, _), (7, _)] _ _
  refine run_seq ?_
  refine run_seq ?_
  refine run_region ?_
  refine rl_v rfl rfl rfl (ov_move rfl rfl) ?_
  refine rl_v rfl rfl rfl (ov_move rfl rfl) ?_
  refine rl_v rfl rfl rfl (ov_lss rfl rfl rfl) ?_
  refine rl_nil ?_
  first | refine run_cond_dec rfl (fun h1 => ?_) (fun h1 => ?_) | refine run_cond rfl (fun h1 => ?_) (fun h1 => ?_)
  · refine run_skip ?_
    refine run_seq ?_
    refine run_block ?_
    refine run_seq ?_
    refine run_region ?_
    refine rl_v rfl rfl rfl (ov_assign rfl rfl) ?_
    refine rl_nil ?_
    refine run_seq ?_
    refine run_seq ?_
    refine run_region ?_
    refine rl_v rfl rfl rfl (ov_assign rfl rfl) ?_
    refine rl_nil ?_
    refine run_block ?_
    refine Run.keep [0, 2, 7, 8, 9, 10, 11] (F' := [(0, _), (2, _), (7, _), (8, _), (9, _), (10, _), (11, _)]) rfl ?_
    refine run_loop5 (fun (x : Value) (j : Int) (m2 : Nat) (f : Int → Int) (cr : Option Blk) => [(10, x), (11, .int .i64 j)]) [0, 2, 7, 8, 9] (fun (x : Value) (j : Int) (m2 : Nat) (f : Int → Int) (cr : Option Blk) (w3 : World) => j = m2 ∧ j ≤ n ∧ IRow x 2 m2 (fun c => .int .i64 (f c)) cr ∧ Own w.heap.size w w3 (cr :: H) ∧ (∀ c, 0 ≤ f c ∧ f c ≤ top) ∧ f k = 0) (fun (x : Value) (j : Int) (m2 : Nat) (f : Int → Int) (cr : Option Blk) => n - m2) (.slice none 0 0) (0) (0) (fun _ => 0) (none) ?_ (And.intro rfl (And.intro (by first | with_reducible rfl | exact slot_int rfl (by first | omega) | rfl) (And.intro rfl (And.intro rfl (And.intro rfl (And.intro rfl (And.intro rfl trivial))))))) ?_
    · exact ⟨rfl, by omega, IRow.nil _ _, hO.nil_cons, fun _ => ⟨Int.le_refl _, ht.1⟩, rfl⟩
    intro x j m2 f cr w3 hIw3 ih4
    obtain ⟨hm2', hj, hR, hO2, hf1, hf2⟩ := hIw3
    show Run _ _ _ _ [(10, _), (11, _), (0, _), (2, _), (7, _), (8, _), (9, _)] _ _
    refine run_seq ?_
    refine run_seq ?_
    refine run_region ?_
    refine rl_v rfl rfl rfl (ov_move rfl rfl) ?_
    refine rl_v rfl rfl rfl (ov_move rfl rfl) ?_
    refine rl_v rfl rfl rfl (ov_lss rfl rfl rfl) ?_
    refine rl_nil ?_
    first | refine run_cond_dec rfl (fun h2 => ?_) (fun h2 => ?_) | refine run_cond rfl (fun h2 => ?_) (fun h2 => ?_)
    · refine run_skip ?_
      refine run_seq ?_
      refine run_block ?_
      refine run_seq ?_
      refine run_region ?_
      refine rl_v rfl rfl rfl (ov_assign rfl rfl) ?_
      refine rl_nil ?_
      refine run_seq ?_
      refine run_seq ?_
      refine run_region_join 45 (.bool (decide (k ≠ j ∧ k < G ∧ j < L k))) [0, 2, 7, 8, 9, 10, 11, 12] (fun hk5 => ?_) ?_
      · refine rl_v rfl rfl rfl (ov_move rfl rfl) ?_
        refine rl_v rfl rfl rfl (ov_move rfl rfl) ?_
        refine rl_v rfl rfl rfl (ov_neq rfl rfl rfl) ?_
        refine rl_v rfl rfl rfl (ov_move rfl rfl) ?_
        first | refine rl_split_dec 31 rfl (fun hg6 => ?_) (fun hg6 => ?_) | refine rl_split 31 rfl (fun hg6 => ?_) (fun hg6 => ?_)
        · refine rl_gv rfl rfl rfl rfl rfl (ov_move rfl rfl) ?_
          refine rl_gv rfl rfl rfl rfl rfl (ov_move rfl rfl) ?_
          refine rl_gv rfl rfl rfl rfl rfl (ov_len rfl Try.underlying22 rfl) ?_
          refine rl_gv rfl rfl rfl rfl rfl (ov_lss rfl rfl rfl) ?_
          refine rl_v rfl rfl rfl (ov_pick_t rfl rfl rfl) ?_
          refine rl_v rfl rfl rfl (ov_move rfl rfl) ?_
          first | refine rl_split_dec 37 rfl (fun hg7 => ?_) (fun hg7 => ?_) | refine rl_split 37 rfl (fun hg7 => ?_) (fun hg7 => ?_)
          · refine rl_gv rfl rfl rfl rfl rfl (ov_move rfl rfl) ?_
            refine rl_gv rfl rfl rfl rfl rfl (ov_move rfl rfl) ?_
            refine rl_gv rfl rfl rfl rfl rfl (ov_move rfl rfl) ?_
            refine rl_gv rfl rfl rfl rfl rfl (ov_index1 rfl Try.underlying22 (by kernel_rfl) rfl rfl ⟨by omega, by omega⟩ (by first | rfl | exact hga (by omega) | exact hra _ (by omega) (by omega) (by omega))) ?_
            refine rl_gv rfl rfl rfl rfl rfl (ov_load rfl Try.underlying23 rfl rfl (by first | exact hrow _ hO2.below _ (by omega) (by omega) | exact hel _ hO2.below _ (by omega) (by omega) _ (by omega) (by omega) | exact hO2.cellI 0 rfl _ (by omega) (by omega) | exact hO2.cellL 0 rfl rfl | exact hO2.cellI 1 rfl _ (by omega) (by omega) | exact hO2.cellL 1 rfl rfl | exact hO2.cellI 2 rfl _ (by omega) (by omega) | exact hO2.cellL 2 rfl rfl | exact hO2.cellI 3 rfl _ (by omega) (by omega) | exact hO2.cellL 3 rfl rfl | exact hO2.cellI 4 rfl _ (by omega) (by omega) | exact hO2.cellL 4 rfl rfl | exact hO2.cellI 5 rfl _ (by omega) (by omega) | exact hO2.cellL 5 rfl rfl)) ?_
            refine rl_gv rfl rfl rfl rfl rfl (ov_len rfl Try.underlying23 rfl) ?_
            refine rl_gv rfl rfl rfl rfl rfl (ov_lss rfl rfl rfl) ?_
            refine rl_v rfl rfl rfl (ov_pick_t rfl rfl rfl) ?_
            refine rl_nil (hk5 _ (jbd rfl (by first | omega | grind)) (And.intro rfl (And.intro rfl (And.intro rfl (And.intro rfl (And.intro rfl (And.intro rfl (And.intro rfl (And.intro rfl trivial)))))))))
          · refine rl_gskip rfl rfl rfl rfl rfl rfl ?_
            refine rl_gskip rfl rfl rfl rfl rfl rfl ?_
            refine rl_gskip rfl rfl rfl rfl rfl rfl ?_
            refine rl_gskip rfl rfl rfl rfl rfl rfl ?_
            refine rl_gskip rfl rfl rfl rfl rfl rfl ?_
            refine rl_gskip rfl rfl rfl rfl rfl rfl ?_
            refine rl_gskip rfl rfl rfl rfl rfl rfl ?_
            refine rl_v rfl rfl rfl (ov_pick_f rfl rfl rfl) ?_
            refine rl_nil (hk5 _ (jbf rfl (by first | omega | grind)) (And.intro rfl (And.intro rfl (And.intro rfl (And.intro rfl (And.intro rfl (And.intro rfl (And.intro rfl (And.intro rfl trivial)))))))))
        · refine rl_gskip rfl rfl rfl rfl rfl rfl ?_
          refine rl_gskip rfl rfl rfl rfl rfl rfl ?_
          refine rl_gskip rfl rfl rfl rfl rfl rfl ?_
          refine rl_gskip rfl rfl rfl rfl rfl rfl ?_
          refine rl_v rfl rfl rfl (ov_pick_f rfl rfl rfl) ?_
          refine rl_v rfl rfl rfl (ov_move rfl rfl) ?_
          refine rl_gskip rfl rfl rfl rfl rfl rfl ?_
          refine rl_gskip rfl rfl rfl rfl rfl rfl ?_
          refine rl_gskip rfl rfl rfl rfl rfl rfl ?_
          refine rl_gskip rfl rfl rfl rfl rfl rfl ?_
          refine rl_gskip rfl rfl rfl rfl rfl rfl ?_
          refine rl_gskip rfl rfl rfl rfl rfl rfl ?_
          refine rl_gskip rfl rfl rfl rfl rfl rfl ?_
          refine rl_v rfl rfl rfl (ov_pick_f rfl rfl rfl) ?_
          refine rl_nil (hk5 _ (jbf rfl (by first | omega | grind)) (And.intro rfl (And.intro rfl (And.intro rfl (And.intro rfl (And.intro rfl (And.intro rfl (And.intro rfl (And.intro rfl trivial)))))))))
      · show Run _ _ _ _ [(45, _), (0, _), (2, _), (7, _), (8, _), (9, _), (10, _), (11, _), (12, _)] _ _
        refine Run.keep [0, 2, 7, 8, 9, 10, 11, 12, 45] (F' := [(0, _), (2, _), (7, _), (8, _), (9, _), (10, _), (11, _), (12, _), (45, _)]) rfl ?_
        refine run_join1 (fun (x : Int) => [(12, .int .i64 x)]) [0, 2, 7, 8, 9, 10, 11] (fun (x : Int) (w8 : World) => (0 ≤ x ∧ x ≤ top ∧ (k = j → x = 0)) ∧ Own w.heap.size w w8 (cr :: H)) (fun hk9 => ?_) ?_
        · first | refine run_cond_dec rfl (fun h3 => ?_) (fun h3 => ?_) | refine run_cond rfl (fun h3 => ?_) (fun h3 => ?_)
          · refine run_seq ?_
            refine run_region ?_
            refine rl_v rfl rfl rfl (ov_move rfl rfl) ?_
            refine rl_v rfl rfl rfl (ov_move rfl rfl) ?_
            refine rl_v rfl rfl rfl (ov_index1 rfl Try.underlying22 (by kernel_rfl) rfl rfl ⟨by omega, by omega⟩ (by first | rfl | exact hga (by omega) | exact hra _ (by omega) (by omega) (by omega))) ?_
            refine rl_v rfl rfl rfl (ov_load rfl Try.underlying23 rfl rfl (by first | exact hrow _ hO2.below _ (by omega) (by omega) | exact hel _ hO2.below _ (by omega) (by omega) _ (by omega) (by omega) | exact hO2.cellI 0 rfl _ (by omega) (by omega) | exact hO2.cellL 0 rfl rfl | exact hO2.cellI 1 rfl _ (by omega) (by omega) | exact hO2.cellL 1 rfl rfl | exact hO2.cellI 2 rfl _ (by omega) (by omega) | exact hO2.cellL 2 rfl rfl | exact hO2.cellI 3 rfl _ (by omega) (by omega) | exact hO2.cellL 3 rfl rfl | exact hO2.cellI 4 rfl _ (by omega) (by omega) | exact hO2.cellL 4 rfl rfl | exact hO2.cellI 5 rfl _ (by omega) (by omega) | exact hO2.cellL 5 rfl rfl)) ?_
            refine rl_v rfl rfl rfl (ov_move rfl rfl) ?_
            refine rl_v rfl rfl rfl (ov_index1 rfl Try.underlying23 (by kernel_rfl) rfl rfl ⟨by omega, by omega⟩ (by first | rfl | exact hga (by omega) | exact hra _ (by omega) (by omega) (by omega))) ?_
            refine rl_v rfl rfl rfl (ov_load rfl Try.underlying2 rfl rfl (by first | exact hrow _ hO2.below _ (by omega) (by omega) | exact hel _ hO2.below _ (by omega) (by omega) _ (by omega) (by omega) | exact hO2.cellI 0 rfl _ (by omega) (by omega) | exact hO2.cellL 0 rfl rfl | exact hO2.cellI 1 rfl _ (by omega) (by omega) | exact hO2.cellL 1 rfl rfl | exact hO2.cellI 2 rfl _ (by omega) (by omega) | exact hO2.cellL 2 rfl rfl | exact hO2.cellI 3 rfl _ (by omega) (by omega) | exact hO2.cellL 3 rfl rfl | exact hO2.cellI 4 rfl _ (by omega) (by omega) | exact hO2.cellL 4 rfl rfl | exact hO2.cellI 5 rfl _ (by omega) (by omega) | exact hO2.cellL 5 rfl rfl)) ?_
            refine rl_v rfl rfl rfl (ov_assign rfl rfl) ?_
            refine rl_nil ?_
            refine run_seq ?_
            refine run_region_join 59 (.bool (decide (D k j < 0 ∨ top < D k j))) [0, 2, 7, 8, 9, 10, 11, 12] (fun hk10 => ?_) ?_
            · refine rl_v rfl rfl rfl (ov_move rfl rfl) ?_
              refine rl_v rfl rfl rfl (ov_lss rfl rfl rfl) ?_
              refine rl_v rfl rfl rfl (ov_move rfl rfl) ?_
              first | refine rl_split_dec 55 rfl (fun hg11 => ?_) (fun hg11 => ?_) | refine rl_split 55 rfl (fun hg11 => ?_) (fun hg11 => ?_)
              · refine rl_gskip rfl rfl rfl rfl rfl rfl ?_
                refine rl_gskip rfl rfl rfl rfl rfl rfl ?_
                refine rl_gskip rfl rfl rfl rfl rfl rfl ?_
                refine rl_v rfl rfl rfl (ov_pick_t rfl rfl rfl) ?_
                refine rl_nil (hk10 _ (jbt rfl (by first | omega | grind)) (And.intro rfl (And.intro rfl (And.intro rfl (And.intro rfl (And.intro rfl (And.intro rfl (And.intro rfl (And.intro rfl trivial)))))))))
              · refine rl_gv rfl rfl rfl rfl rfl (ov_move rfl rfl) ?_
                refine rl_gv rfl rfl rfl rfl rfl (ov_move rfl rfl) ?_
                refine rl_gv rfl rfl rfl rfl rfl (ov_gtr rfl rfl rfl) ?_
                refine rl_v rfl rfl rfl (ov_pick_f rfl rfl rfl) ?_
                refine rl_nil (hk10 _ (jbd rfl (by first | omega | grind)) (And.intro rfl (And.intro rfl (And.intro rfl (And.intro rfl (And.intro rfl (And.intro rfl (And.intro rfl (And.intro rfl trivial)))))))))
            · show Run _ _ _ _ [(59, _), (0, _), (2, _), (7, _), (8, _), (9, _), (10, _), (11, _), (12, _)] _ _
              first | refine run_cond_dec rfl (fun h4 => ?_) (fun h4 => ?_) | refine run_cond rfl (fun h4 => ?_) (fun h4 => ?_)
              · refine run_region ?_
                refine rl_v rfl rfl rfl (ov_move rfl rfl) ?_
                refine rl_v rfl rfl rfl (ov_conv rfl Try.underlying2 Try.underlying46 rfl) ?_
                refine rl_v rfl rfl rfl (ov_move rfl rfl) ?_
                refine rl_v rfl rfl rfl (ov_add rfl rfl rfl (by omega)) ?_
                refine rl_v rfl rfl rfl (ov_conv rfl Try.underlying2 Try.underlying46 rfl) ?_
                refine rl_v rfl rfl rfl (ov_rem rfl rfl rfl (wrap_u64_nonneg _) (wrap_u64_pos _ ht.1 ht.2)) ?_
                refine rl_v rfl rfl rfl (ov_conv rfl Try.underlying46 Try.underlying2 rfl) ?_
                refine rl_v rfl rfl rfl (ov_assign rfl rfl) ?_
                refine rl_nil ?_
                refine Run.use (hk9 _ _ ?_) (And.intro (by first | with_reducible rfl | exact slot_int rfl (by first | omega) | rfl) (And.intro rfl (And.intro rfl (And.intro rfl (And.intro rfl (And.intro rfl (And.intro rfl (And.intro rfl trivial))))))))
                exact ⟨⟨(mod_le _ _ ht.1 ht.2).1, (mod_le _ _ ht.1 ht.2).2, by omega⟩, hO2⟩
              · refine run_skip ?_
                refine Run.use (hk9 _ _ ?_) (And.intro (by first | with_reducible rfl | exact slot_int rfl (by first | omega) | rfl) (And.intro rfl (And.intro rfl (And.intro rfl (And.intro rfl (And.intro rfl (And.intro rfl (And.intro rfl trivial))))))))
                exact ⟨by omega, hO2⟩
          · refine run_skip ?_
            refine Run.use (hk9 _ _ ?_) (And.intro (by first | with_reducible rfl | exact slot_int rfl (by first | omega) | rfl) (And.intro rfl (And.intro rfl (And.intro rfl (And.intro rfl (And.intro rfl (And.intro rfl (And.intro rfl trivial))))))))
            exact ⟨by omega, hO2⟩
        · intro x w8 hJw8
          obtain ⟨hx, hO3⟩ := hJw8
          show Run _ _ _ _ [(12, _), (0, _), (2, _), (7, _), (8, _), (9, _), (10, _), (11, _)] _ _
          refine run_region ?_
          refine rl_v rfl rfl rfl (ov_move rfl rfl) ?_
          refine rl_v rfl rfl rfl (ov_move rfl rfl) ?_
          refine rl_appI rfl rfl rfl rfl rfl rfl rfl rfl Try.underlying23 info_2 rfl hO3 0 hR rfl rfl rfl ⟨by omega, by omega⟩ (fun v5 c5 w12 hO13 hR5 hs14 => ?_)
          refine rl_v rfl rfl rfl (ov_assign rfl rfl) ?_
          refine rl_nil ?_
          refine run_inBlock ?_
          refine run_region ?_
          refine rl_v rfl rfl rfl (ov_move rfl rfl) ?_
          refine rl_v rfl rfl rfl (ov_add rfl rfl rfl (by omega)) ?_
          refine rl_v rfl rfl rfl (ov_assign rfl rfl) ?_
          refine rl_nil ?_
          refine Run.use (ih4 _ _ (m2 + 1) (upd f m2 x) (c5) _ ?_ ?_) (And.intro rfl (And.intro (by first | with_reducible rfl | exact slot_int rfl (by first | omega) | rfl) (And.intro rfl (And.intro rfl (And.intro rfl (And.intro rfl (And.intro rfl trivial)))))))
          · first | omega | (dsimp only; omega)
          · exact ⟨by omega, by omega, hR5, hO13, fun c => by unfold upd; split; omega; exact hf1 c, by unfold upd; split; omega; exact hf2⟩
    · obtain ⟨ao', cap', rfl⟩ := Row.val hR
      obtain ⟨c, rv, ch, rfl, hv, h3⟩ := hT
      obtain rfl : m2 = n := by omega
      refine run_exit rfl ?_
      refine run_region ?_
      refine rl_v rfl rfl rfl (ov_move rfl rfl) ?_
      refine rl_v rfl rfl rfl (ov_move rfl rfl) ?_
      refine rl_appV rfl rfl rfl rfl rfl rfl rfl rfl Try.underlying22 info_23 rfl hO2 1 hv rfl rfl rfl rfl ⟨by omega, by omega⟩ (fun v6 c6 w15 hO16 hv6 hs17 => ?_)
      obtain ⟨H', hT', hO'⟩ := OTab.snoc (L := fun _ => m2) (F := fun r c => .int .i64 (upd D' k f r c)) (H0 := []) (fun r hr => (h3 r hr).congr (fun i _ _ => by show _ = Value.int .i64 (upd D' k f r i); rw [upd_ne _ _ (by omega)])) hR hv6 (by simpa using hO16) rfl (fun i _ _ => by rw [hm, upd_same])
      refine rl_v rfl rfl rfl (ov_assign rfl rfl) ?_
      refine rl_nil ?_
      refine run_inBlock ?_
      refine run_region ?_
      refine rl_v rfl rfl rfl (ov_move rfl rfl) ?_
      refine rl_v rfl rfl rfl (ov_add rfl rfl rfl (by omega)) ?_
      refine rl_v rfl rfl rfl (ov_assign rfl rfl) ?_
      refine rl_nil ?_
      refine Run.use (ih2 _ _ (m + 1) (upd D' k f) (H') _ ?_ ?_) (And.intro rfl (And.intro (by first | with_reducible rfl | exact slot_int rfl (by first | omega) | rfl) (And.intro rfl (And.intro rfl (And.intro rfl trivial)))))
      · first | omega | (dsimp only; omega)
      · exact ⟨by omega, by omega, hT', by simpa using hO', fun r c => by unfold upd; split; exact hf1 c; exact hD1 r c, fun r => by unfold upd; split; (rename_i e; rw [e]; exact hf2); exact hD2 r⟩
  · obtain rfl : m = n := by omega
    refine run_exit rfl ?_
    refine run_seq ?_
    refine run_region ?_
    refine rl_v rfl rfl rfl (ov_move rfl rfl) ?_
    refine rl_v rfl rfl rfl (ov_assign rfl rfl) ?_
    refine rl_nil ?_
    refine run_ret Try.func13 (res1 Try.results13 rfl) ?_
    exact ⟨v, m, D', H, rfl, hT, hO, by omega, by omega, hD1, hD2⟩
end Go.Proofs.Ytiambddcpflkhaa
