/- Crises: Index, Contains, Rescue; NetRescues: the walk. -/
import Derived.Test.YtiambddcpflkhaaNetR
import Derived.Test.YtiambddcpflkhaaNetQ
set_option maxRecDepth 100000
namespace Go.Proofs.Ytiambddcpflkhaa
open Go.RowKit Go.Proofs

theorem indexInt_any (ao : Option Addr) (n c : Nat) (X : Int → Int) (v : Int) (w : World) (hn : n ≤ 1000000) (h : IAt w.heap.size w ao n (fun i => .int .i64 (X i))) :
    Calls Try.prog 78 #[.slice ao n c, .int .i64 v] w fun e w' => (∃ r : Int, e = .returned (.int .i64 r) ∧ (r = -1 ∧ (∀ i : Int, 0 ≤ i → i < n → X i ≠ v) ∨ 0 ≤ r ∧ r < n ∧ X r = v)) ∧ Below w.heap.size w w' := by
  obtain ⟨gb, go, hga, hrow⟩ := h.open
  refine calls_of_run (F := [(0, _), (1, _)]) Try.func78 rfl Try.ntmps78 rfl rfl ?_
  have hO0 := Own.init w
  refine run_seq ?_
  refine run_region ?_
  refine rl_v rfl rfl rfl (ov_assign rfl rfl) ?_
  refine rl_nil ?_
  refine run_seq ?_
  refine run_seq ?_
  refine run_region ?_
  refine rl_v rfl rfl rfl (ov_move rfl rfl) ?_
  refine rl_v rfl rfl rfl (ov_len rfl Try.underlying55 rfl) ?_
  refine rl_v rfl rfl rfl (ov_move rfl rfl) ?_
  refine rl_nil ?_
  refine run_block ?_
  refine Run.keep [0, 1, 7, 8] (F' := [(0, _), (1, _), (7, _), (8, _)]) rfl ?_
  refine run_loop1 (fun (k : Int) => [(8, .int .i64 k)]) [0, 1, 7] (fun (k : Int) (w1 : World) => 0 ≤ k ∧ k ≤ n ∧ (∀ i : Int, 0 ≤ i → i < k → X i ≠ v) ∧ Own w.heap.size w w1 []) (fun (k : Int) => ((n : Int) - k).toNat) (0) ?_ (And.intro (by first | with_reducible rfl | exact slot_int rfl (by first | omega) | rfl) (And.intro rfl (And.intro rfl (And.intro rfl trivial)))) ?_
  · exact ⟨by omega, by omega, fun i h0 h1 => by omega, hO0⟩
  intro k w1 hIw1 ih2
  obtain ⟨hk0, hk1, hall, hO⟩ := hIw1
  show Run _ _ _ _ [(8, _), (0, _), (1, _), (7, _)] _ _
  refine run_seq ?_
  refine run_region ?_
  refine rl_v rfl rfl rfl (ov_lss rfl rfl rfl) ?_
  refine rl_nil ?_
  refine run_seq ?_
  first | refine run_cond_dec rfl (fun h1 => ?_) (fun h1 => ?_) | refine run_cond rfl (fun h1 => ?_) (fun h1 => ?_)
  · refine run_skip ?_
    refine run_seq ?_
    refine run_block ?_
    refine run_seq ?_
    refine run_region ?_
    refine rl_v rfl rfl rfl (ov_move rfl rfl) ?_
    refine rl_v rfl rfl rfl (ov_assign rfl rfl) ?_
    refine rl_nil ?_
    refine run_seq ?_
    refine run_region ?_
    refine rl_v rfl rfl rfl (ov_move rfl rfl) ?_
    refine rl_v rfl rfl rfl (ov_move rfl rfl) ?_
    refine rl_v rfl rfl rfl (ov_move rfl rfl) ?_
    refine rl_v rfl rfl rfl (ov_index1 rfl Try.underlying55 (by kernel_rfl) rfl rfl ⟨by omega, by omega⟩ (by first | rfl | exact hga (by omega))) ?_
    refine rl_v rfl rfl rfl (ov_load rfl Try.underlying3 rfl rfl (by first | exact hrow _ hO.below _ (by omega) (by omega) | exact hO.cellI 0 rfl _ (by omega) (by omega) | exact hO.cellL 0 rfl rfl | exact hO.cellI 1 rfl _ (by omega) (by omega) | exact hO.cellL 1 rfl rfl | exact hO.cellI 2 rfl _ (by omega) (by omega) | exact hO.cellL 2 rfl rfl | exact hO.cellI 3 rfl _ (by omega) (by omega) | exact hO.cellL 3 rfl rfl | exact hO.cellI 4 rfl _ (by omega) (by omega) | exact hO.cellL 4 rfl rfl | exact hO.cellI 5 rfl _ (by omega) (by omega) | exact hO.cellL 5 rfl rfl)) ?_
    refine rl_v rfl rfl rfl (ov_eql rfl rfl rfl) ?_
    refine rl_nil ?_
    first | refine run_cond_dec rfl (fun h2 => ?_) (fun h2 => ?_) | refine run_cond rfl (fun h2 => ?_) (fun h2 => ?_)
    · refine run_seq ?_
      refine run_region ?_
      refine rl_v rfl rfl rfl (ov_move rfl rfl) ?_
      refine rl_v rfl rfl rfl (ov_assign rfl rfl) ?_
      refine rl_nil ?_
      refine run_ret Try.func78 (res1 Try.results78 rfl) ?_
      exact ⟨⟨k, rfl, .inr ⟨hk0, h1, h2.symm⟩⟩, hO.below⟩
    · refine run_skip ?_
      refine run_inBlock ?_
      refine run_region ?_
      refine rl_v rfl rfl rfl (ov_add rfl rfl rfl (by omega)) ?_
      refine rl_v rfl rfl rfl (ov_move rfl rfl) ?_
      refine rl_nil ?_
      refine Run.use (ih2 _ _ ?_ ?_) (And.intro (by first | with_reducible rfl | exact slot_int rfl (by first | omega) | rfl) (And.intro rfl (And.intro rfl (And.intro rfl trivial))))
      · first | omega | (dsimp only; omega)
      · exact ⟨by omega, by omega, fun i h0 h1' => (by omega : i = k ∨ i < k).elim (fun e => by rw [e]; exact fun e' => h2 e'.symm) (fun e => hall i h0 e), hO⟩
  · refine run_exit rfl ?_
    refine run_seq ?_
    refine run_region ?_
    refine rl_v rfl rfl rfl (ov_assign rfl rfl) ?_
    refine rl_nil ?_
    refine run_ret Try.func78 (res1 Try.results78 rfl) ?_
    exact ⟨⟨-1, rfl, .inl ⟨rfl, fun i h0 h1' => hall i h0 (by omega)⟩⟩, hO.below⟩

theorem containsInt_any (ao : Option Addr) (n c : Nat) (X : Int → Int) (v : Int) (w : World) (hn : n ≤ 1000000) (h : IAt w.heap.size w ao n (fun i => .int .i64 (X i))) :
    Calls Try.prog 71 #[.slice ao n c, .int .i64 v] w fun e w' => (∃ b, e = .returned (.bool b) ∧ (b = true ↔ ∃ i : Int, 0 ≤ i ∧ i < n ∧ X i = v)) ∧ Below w.heap.size w w' := by
  refine calls_of_run (F := [(0, _), (1, _)]) Try.func71 rfl Try.ntmps71 rfl rfl ?_
  have hO0 := Own.init w
  refine run_seq ?_
  refine run_region ?_
  refine rl_v rfl rfl rfl (ov_assign rfl rfl) ?_
  refine rl_nil ?_
  refine run_seq ?_
  refine run_region ?_
  refine rl_v rfl rfl rfl (ov_move rfl rfl) ?_
  refine rl_v rfl rfl rfl (ov_move rfl rfl) ?_
  refine rl_call callable_78 rfl rfl rfl rfl rfl rfl (indexInt_any ao n c X v _ hn h) (fun e1 w2 hp3 => ?_)
  obtain ⟨⟨r, rfl, hr⟩, hb⟩ := hp3
  refine ⟨_, rfl, ?_⟩
  have hO4 := hO0.past hb
  refine rl_v rfl rfl rfl (ov_geq rfl rfl rfl) ?_
  refine rl_v rfl rfl rfl (ov_assign rfl rfl) ?_
  refine rl_nil ?_
  refine run_ret Try.func71 (res1 Try.results71 rfl) ?_
  exact ⟨⟨_, rfl, by rcases hr with ⟨h1, h2⟩ | ⟨h1, h2, h3⟩; (simp only [decide_eq_true_eq]; exact ⟨fun h => by omega, fun ⟨i, a, b, c⟩ => absurd c (h2 i a b)⟩); (simp only [decide_eq_true_eq]; exact ⟨fun _ => ⟨r, h1, h2, h3⟩, fun _ => h1⟩)⟩, hO4.below⟩

theorem rescue_any (ao ac : Option Addr) (n c cc : Nat) (D : Int → Int → Int) (cash : Int → Int) (party : Int) (w : World) (hv : Valid n D) (hc : ∀ i : Int, 0 ≤ i → i < n → 0 ≤ cash i ∧ cash i ≤ 1000000)
    (h : ITab w.heap.size w ao n (fun _ => n) (fun r c => .int .i64 (D r c))) (hC : IAt w.heap.size w ac n (fun i => .int .i64 (cash i))) :
    Calls Try.prog 30 #[.agg [.slice ao n c, .slice ac n cc].toArray, .int .i64 party] w fun e w' => (∃ r f : Int, e = .returned (.tuple #[.int .i64 r, .int .i64 f]) ∧
      ((party < 0 ∨ n ≤ party) ∧ r = 0 ∧ f = 1 ∨ (0 ≤ party ∧ party < n) ∧ f = 0 ∧ 0 ≤ r ∧ r ≤ ow n D party ∧ ¬ FailsAt n D cash party r ∧ (r = 0 ∨ FailsAt n D cash party (r - 1)))) ∧ Below w.heap.size w w' := by
  have hle := hv.le
  have hpos := hv.pos
  obtain ⟨qb, qo, hca, hcash⟩ := hC.open
  refine calls_of_run (F := [(0, _), (1, _)]) Try.func30 rfl Try.ntmps30 rfl rfl ?_
  have hO0 := Own.init w
  refine run_seq ?_
  refine run_region ?_
  refine rl_ow rfl (ow_box _ rfl rfl rfl rfl rfl hO0) ?_
  rintro _ w1 ⟨b1, rfl, hO2, hs3⟩
  refine rl_v rfl rfl rfl (ov_assign rfl rfl) ?_
  refine rl_v rfl rfl rfl (ov_assign rfl rfl) ?_
  refine rl_nil ?_
  refine run_seq ?_
  refine run_seq ?_
  refine run_region ?_
  refine rl_v rfl rfl rfl (ov_loadW rfl Try.underlying37 rfl (by kernel_rfl) rfl hO2 0 rfl) ?_
  refine rl_call callable_56 rfl rfl rfl rfl rfl rfl (checkCrisis_any ao ac n c n cc (fun _ => n) D cash _ (by omega) (by omega) (h.later hO2.below) (hC.later hO2.below)) (fun e4 w5 hp6 => ?_)
  obtain ⟨rfl, hb⟩ := hp6
  refine ⟨_, rfl, ?_⟩
  have hO7 := hO2.past hb
  rw [hv.chkCr hc]
  refine rl_v rfl rfl rfl (ov_assign rfl rfl) ?_
  refine rl_nil ?_
  refine run_seq ?_
  refine run_region ?_
  refine rl_v rfl rfl rfl (ov_move rfl rfl) ?_
  refine rl_v rfl rfl rfl (ov_neq rfl rfl rfl) ?_
  refine rl_nil ?_
  first | refine run_cond_dec rfl (fun h1 => ?_) (fun h1 => ?_) | refine run_cond rfl (fun h1 => ?_) (fun h1 => ?_)
  · exfalso; exact h1 rfl
  · refine run_skip ?_
    refine run_seq ?_
    refine run_seq ?_
    refine run_region_join 24 (.bool (decide (party < 0 ∨ n ≤ party))) [1, 2] (fun hk8 => ?_) ?_
    · refine rl_v rfl rfl rfl (ov_move rfl rfl) ?_
      refine rl_v rfl rfl rfl (ov_lss rfl rfl rfl) ?_
      refine rl_v rfl rfl rfl (ov_move rfl rfl) ?_
      first | refine rl_split_dec 18 rfl (fun hg9 => ?_) (fun hg9 => ?_) | refine rl_split 18 rfl (fun hg9 => ?_) (fun hg9 => ?_)
      · refine rl_gskip rfl rfl rfl rfl rfl rfl ?_
        refine rl_gskip rfl rfl rfl rfl rfl rfl ?_
        refine rl_gskip rfl rfl rfl rfl rfl rfl ?_
        refine rl_gskip rfl rfl rfl rfl rfl rfl ?_
        refine rl_gskip rfl rfl rfl rfl rfl rfl ?_
        refine rl_v rfl rfl rfl (ov_pick_t rfl rfl rfl) ?_
        refine rl_nil (hk8 _ (jbt rfl (by first | omega | grind)) (And.intro rfl (And.intro rfl trivial)))
      · refine rl_gv rfl rfl rfl rfl rfl (ov_move rfl rfl) ?_
        refine rl_gv rfl rfl rfl rfl rfl (ov_fieldS rfl Try.underlying37 rfl (fo := 0) rfl (by kernel_rfl) rfl) ?_
        refine rl_gv rfl rfl rfl rfl rfl (ov_load rfl Try.underlying22 rfl rfl (by first | exact hO7.cellI 0 rfl _ (by omega) (by omega) | exact hO7.cellL 0 rfl rfl | exact hO7.cellI 1 rfl _ (by omega) (by omega) | exact hO7.cellL 1 rfl rfl | exact hO7.cellI 2 rfl _ (by omega) (by omega) | exact hO7.cellL 2 rfl rfl | exact hO7.cellI 3 rfl _ (by omega) (by omega) | exact hO7.cellL 3 rfl rfl | exact hO7.cellI 4 rfl _ (by omega) (by omega) | exact hO7.cellL 4 rfl rfl | exact hO7.cellI 5 rfl _ (by omega) (by omega) | exact hO7.cellL 5 rfl rfl)) ?_
        refine rl_gv rfl rfl rfl rfl rfl (ov_len rfl Try.underlying22 rfl) ?_
        refine rl_gv rfl rfl rfl rfl rfl (ov_geq rfl rfl rfl) ?_
        refine rl_v rfl rfl rfl (ov_pick_f rfl rfl rfl) ?_
        refine rl_nil (hk8 _ (jbd rfl (by first | omega | grind)) (And.intro rfl (And.intro rfl trivial)))
    · show Run _ _ _ _ [(24, _), (1, _), (2, _)] _ _
      first | refine run_cond_dec rfl (fun h2 => ?_) (fun h2 => ?_) | refine run_cond rfl (fun h2 => ?_) (fun h2 => ?_)
      · refine run_seq ?_
        refine run_region ?_
        refine rl_v rfl rfl rfl (ov_assign rfl rfl) ?_
        refine rl_v rfl rfl rfl (ov_assign rfl rfl) ?_
        refine rl_nil ?_
        refine run_ret Try.func30 (res2 Try.results30 rfl rfl) ?_
        exact ⟨⟨0, 1, rfl, .inl ⟨h2, rfl, rfl⟩⟩, hO7.below⟩
      · have hp0 : 0 ≤ party := by omega
        have hp1 : party < n := by omega
        have hcp := hc party hp0 hp1
        have hor := ow_rng hv party
        refine run_skip ?_
        refine run_seq ?_
        refine Run.keep [1, 2] (F' := [(1, _), (2, _)]) rfl ?_
        refine run_join3 (fun (b7 : Nat) (vc : Value) (c7 : Option Blk) => [(7, .pointer (some ⟨b7, 0, none⟩))]) [1, 2] (fun (b7 : Nat) (vc : Value) (c7 : Option Blk) (w10 : World) => IRow vc 2 n (fun i => .int .i64 (cash i)) c7 ∧ Own w.heap.size w w10 [c7, some (lch b7 37 [.slice ao n c, vc]), some (lch b1 37 [.slice ao n c, .slice ac n cc])]) (fun hk11 => ?_) ?_
        · refine run_held (fun w' => Own w.heap.size w w' ([some (lch b1 37 [.slice ao n c, .slice ac n cc])])) mixed ?_
          have hO13 := hO7.drew
          generalize World.drew w5 = w12 at hO13 ⊢
          have hS14 : Own w.heap.size w w12 ([some (lch b1 37 [.slice ao n c, .slice ac n cc])]) := by first | exact hO13 | exact hO13.tail | exact hO13.tail.tail
          refine rh_v 0 rfl (by kernel_rfl) rfl rfl rfl hS14 (fun _ hS => ov_fieldS rfl Try.underlying37 rfl (fo := 0) rfl (by kernel_rfl) rfl) ?_
          refine rh_v 1 rfl (by kernel_rfl) rfl rfl rfl hS14 (fun _ hS => ov_load rfl Try.underlying22 rfl rfl (by first | exact hS.cellI 0 rfl _ (by omega) (by omega) | exact hS.cellL 0 rfl rfl | exact hS.cellI 1 rfl _ (by omega) (by omega) | exact hS.cellL 1 rfl rfl | exact hS.cellI 2 rfl _ (by omega) (by omega) | exact hS.cellL 2 rfl rfl | exact hS.cellI 3 rfl _ (by omega) (by omega) | exact hS.cellL 3 rfl rfl | exact hS.cellI 4 rfl _ (by omega) (by omega) | exact hS.cellL 4 rfl rfl | exact hS.cellI 5 rfl _ (by omega) (by omega) | exact hS.cellL 5 rfl rfl)) ?_
          refine rh_v 2 rfl (by kernel_rfl) rfl rfl rfl hS14 (fun _ hS => ov_fieldS rfl Try.underlying37 rfl (fo := 1) rfl (by kernel_rfl) rfl) ?_
          refine rh_v 3 rfl (by kernel_rfl) rfl rfl rfl hS14 (fun _ hS => ov_load rfl Try.underlying23 rfl rfl (by first | exact hS.cellI 0 rfl _ (by omega) (by omega) | exact hS.cellL 0 rfl rfl | exact hS.cellI 1 rfl _ (by omega) (by omega) | exact hS.cellL 1 rfl rfl | exact hS.cellI 2 rfl _ (by omega) (by omega) | exact hS.cellL 2 rfl rfl | exact hS.cellI 3 rfl _ (by omega) (by omega) | exact hS.cellL 3 rfl rfl | exact hS.cellI 4 rfl _ (by omega) (by omega) | exact hS.cellL 4 rfl rfl | exact hS.cellI 5 rfl _ (by omega) (by omega) | exact hS.cellL 5 rfl rfl)) ?_
          refine rh_any2 4 6 (by kernel_rfl) ?_ ?_
          · refine rc_op rfl rfl (ow_call2 callable_69 rfl rfl rfl rfl rfl (clone_any ac n cc cash _ (by omega) (hC.later hO13.below)) (by intro e w' hp; obtain ⟨vc, c7, rfl, hrc, hOc⟩ := hp; exact ⟨_, rfl⟩)) ?_
            rintro _ w17 ⟨_, v15, he18, rfl, hp16⟩
            obtain ⟨vc, c7, rfl, hrc, hOc⟩ := hp16
            injection he18 with he18; subst he18
            have hO19 := hO13.join hOc
            have hS20 : Own w.heap.size w w17 ([some (lch b1 37 [.slice ao n c, .slice ac n cc])]) := by first | exact hO19 | exact hO19.tail | exact hO19.tail.tail
            refine ⟨hS20, ?_⟩
            obtain ⟨a7, p7, rfl⟩ := hrc.val
            refine rh_v 5 rfl (by kernel_rfl) rfl rfl rfl hS20 (fun _ hS => ov_buildL rfl lay_37 rfl (us := [_, _]) rfl) ?_
            refine rh_any1 6 (by kernel_rfl) ?_
            refine rc_op rfl rfl (ow_alloc _ rfl rfl rfl zero_37 rfl hO19) ?_
            rintro _ w21 ⟨b7, rfl, hO22, hs23⟩
            have hS24 : Own w.heap.size w w21 ([some (lch b1 37 [.slice ao n c, .slice ac n cc])]) := by first | exact hO22 | exact hO22.tail | exact hO22.tail.tail
            refine ⟨hS24, ?_⟩
            refine rh_any1 7 (by kernel_rfl) ?_
            refine rc_op rfl rfl (ow_storeW rfl rfl (by kernel_rfl) hO22 0 rfl rfl (by rfl) rfl (by rfl)) ?_
            rintro _ w25 ⟨rfl, hO26, hs27⟩
            have hS28 : Own w.heap.size w w25 ([some (lch b1 37 [.slice ao n c, .slice ac n cc])]) := by first | exact hO26 | exact hO26.tail | exact hO26.tail.tail
            refine ⟨hS28, ?_⟩
            refine rh_done (by kernel_rfl) ?_
            refine Run.use (hk11 (b7) (.slice a7 n p7) (c7) _ ?_) (And.intro rfl (And.intro rfl (And.intro rfl trivial)))
            exact ⟨hrc, hO26.swap⟩
          · refine rc_op rfl rfl (ow_alloc _ rfl rfl rfl zero_37 rfl hO13) ?_
            rintro _ w29 ⟨b7, rfl, hO30, hs31⟩
            have hS32 : Own w.heap.size w w29 ([some (lch b1 37 [.slice ao n c, .slice ac n cc])]) := by first | exact hO30 | exact hO30.tail | exact hO30.tail.tail
            refine ⟨hS32, ?_⟩
            refine rh_any1 4 (by kernel_rfl) ?_
            refine rc_op rfl rfl (ow_call2 callable_69 rfl rfl rfl rfl rfl (clone_any ac n cc cash _ (by omega) (hC.later hO30.below)) (by intro e w' hp; obtain ⟨vc, c7, rfl, hrc, hOc⟩ := hp; exact ⟨_, rfl⟩)) ?_
            rintro _ w35 ⟨_, v33, he36, rfl, hp34⟩
            obtain ⟨vc, c7, rfl, hrc, hOc⟩ := hp34
            injection he36 with he36; subst he36
            have hO37 := hO30.join hOc
            have hS38 : Own w.heap.size w w35 ([some (lch b1 37 [.slice ao n c, .slice ac n cc])]) := by first | exact hO37 | exact hO37.tail | exact hO37.tail.tail
            refine ⟨hS38, ?_⟩
            obtain ⟨a7, p7, rfl⟩ := hrc.val
            refine rh_v 5 rfl (by kernel_rfl) rfl rfl rfl hS38 (fun _ hS => ov_buildL rfl lay_37 rfl (us := [_, _]) rfl) ?_
            refine rh_any1 7 (by kernel_rfl) ?_
            refine rc_op rfl rfl (ow_storeW rfl rfl (by kernel_rfl) hO37 1 rfl rfl (by rfl) rfl (by rfl)) ?_
            rintro _ w39 ⟨rfl, hO40, hs41⟩
            have hS42 : Own w.heap.size w w39 ([some (lch b1 37 [.slice ao n c, .slice ac n cc])]) := by first | exact hO40 | exact hO40.tail | exact hO40.tail.tail
            refine ⟨hS42, ?_⟩
            refine rh_done (by kernel_rfl) ?_
            refine Run.use (hk11 (b7) (.slice a7 n p7) (c7) _ ?_) (And.intro rfl (And.intro rfl (And.intro rfl trivial)))
            exact ⟨hrc, hO40⟩
        · intro b7 vc c7 w10 hJw10
          obtain ⟨hrc, hO⟩ := hJw10
          show Run _ _ _ _ [(7, _), (1, _), (2, _)] _ _
          obtain ⟨a7, p7, rfl⟩ := hrc.val
          obtain ⟨cb7, G7, rfl, hq1, hq2, rfl, hG7⟩ := hrc.asV hpos
          refine run_seq ?_
          refine run_region ?_
          refine rl_v rfl rfl rfl (ov_loadW rfl Try.underlying37 rfl (by kernel_rfl) rfl hO 2 rfl) ?_
          refine rl_v rfl rfl rfl (ov_move rfl rfl) ?_
          refine rl_call callable_70 rfl rfl rfl rfl rfl rfl (total_any ao n c D (.slice ac n cc) party _ hv hp0 hp1 (h.later hO.below)) (fun e43 w44 hp45 => ?_)
          obtain ⟨rfl, hb3⟩ := hp45
          refine ⟨_, rfl, ?_⟩
          have hO46 := hO.past hb3
          have hnf : ¬ FailsAt n D cash party (ow n D party) := fun ⟨p, hp, e⟩ => by
            have h1 := hp.fix party hp0 hp1 rfl
            have h2 : 0 ≤ rcv n D p party := (rcv_rng hv p hp.rng party).1
            unfold upd at h1
            rw [if_pos rfl] at h1
            omega
          refine rl_v rfl rfl rfl (ov_assign rfl rfl) ?_
          refine rl_v rfl rfl rfl (ov_assign rfl rfl) ?_
          refine rl_nil ?_
          refine run_seq ?_
          refine run_block ?_
          refine Run.keep [1, 2, 7, 8, 9] (F' := [(1, _), (2, _), (7, _), (8, _), (9, _)]) rfl ?_
          refine run_loop3 (fun (lo : Int) (hi : Int) (G : Int → Value) => [(8, .int .i64 lo), (9, .int .i64 hi)]) [1, 2, 7] (fun (lo : Int) (hi : Int) (G : Int → Value) (w47 : World) => 0 ≤ lo ∧ lo ≤ hi ∧ hi ≤ ow n D party ∧ (lo = 0 ∨ FailsAt n D cash party (lo - 1)) ∧ ¬ FailsAt n D cash party hi ∧ (∀ j : Int, 0 ≤ j → j < n → j ≠ party → G j = .int .i64 (cash j)) ∧ Own w.heap.size w w47 [some (vch cb7 2 p7 G), some (lch b7 37 [.slice ao n c, .slice (some ⟨cb7, 0, none⟩) n p7]), some (lch b1 37 [.slice ao n c, .slice ac n cc])]) (fun (lo : Int) (hi : Int) (G : Int → Value) => (hi - lo).toNat) (0) (ow n D party) (G7) ?_ (And.intro (by first | with_reducible rfl | exact slot_int rfl (by first | omega) | rfl) (And.intro (by first | with_reducible rfl | exact slot_int rfl (by first | omega) | rfl) (And.intro rfl (And.intro rfl (And.intro rfl trivial))))) ?_
          · exact ⟨by omega, by omega, by omega, .inl rfl, hnf, fun j j0 j1 _ => hG7 j j0 j1, hO46⟩
          intro lo hi G w47 hIw47 ih48
          obtain ⟨hl0, hlh, hh, hlo, hhi, hG, hO⟩ := hIw47
          show Run _ _ _ _ [(8, _), (9, _), (1, _), (2, _), (7, _)] _ _
          refine run_seq ?_
          refine run_seq ?_
          refine run_region ?_
          refine rl_v rfl rfl rfl (ov_move rfl rfl) ?_
          refine rl_v rfl rfl rfl (ov_move rfl rfl) ?_
          refine rl_v rfl rfl rfl (ov_lss rfl rfl rfl) ?_
          refine rl_nil ?_
          first | refine run_cond_dec rfl (fun h3 => ?_) (fun h3 => ?_) | refine run_cond rfl (fun h3 => ?_) (fun h3 => ?_)
          · have hm0 : 0 ≤ (lo + hi) / 2 := by omega
            have hm1 : (lo + hi) / 2 ≤ 32000000 := by omega
            refine run_skip ?_
            refine run_block ?_
            refine run_seq ?_
            refine run_region ?_
            refine rl_v rfl rfl rfl (ov_move rfl rfl) ?_
            refine rl_v rfl rfl rfl (ov_move rfl rfl) ?_
            refine rl_v rfl rfl rfl (ov_add rfl rfl rfl (by omega)) ?_
            refine rl_v rfl rfl rfl (ov_quo rfl rfl rfl ⟨by omega, by omega⟩ (by omega)) ?_
            refine rl_v rfl rfl rfl (ov_assign rfl rfl) ?_
            refine rl_nil ?_
            refine run_seq ?_
            refine run_tail 11 mixed (by kernel_rfl) ?_
            have hO50 := hO.drew
            generalize World.drew w47 = w49 at hO50 ⊢
            refine rt_v rfl rfl rfl (ov_fieldS rfl Try.underlying37 rfl (fo := 1) rfl (by kernel_rfl) rfl) ?_
            refine rt_v rfl rfl rfl (ov_load rfl Try.underlying23 rfl rfl (by first | exact hcash _ hO50.below _ (by omega) (by omega) | exact hO50.cellI 0 rfl _ (by omega) (by omega) | exact hO50.cellL 0 rfl rfl | exact hO50.cellI 1 rfl _ (by omega) (by omega) | exact hO50.cellL 1 rfl rfl | exact hO50.cellI 2 rfl _ (by omega) (by omega) | exact hO50.cellL 2 rfl rfl | exact hO50.cellI 3 rfl _ (by omega) (by omega) | exact hO50.cellL 3 rfl rfl | exact hO50.cellI 4 rfl _ (by omega) (by omega) | exact hO50.cellL 4 rfl rfl | exact hO50.cellI 5 rfl _ (by omega) (by omega) | exact hO50.cellL 5 rfl rfl)) ?_
            refine rt_v rfl rfl rfl (ov_move rfl rfl) ?_
            refine rt_v rfl rfl rfl (ov_fieldS rfl Try.underlying37 rfl (fo := 1) rfl (by kernel_rfl) rfl) ?_
            refine rt_v rfl rfl rfl (ov_load rfl Try.underlying23 rfl rfl (by first | exact hcash _ hO50.below _ (by omega) (by omega) | exact hO50.cellI 0 rfl _ (by omega) (by omega) | exact hO50.cellL 0 rfl rfl | exact hO50.cellI 1 rfl _ (by omega) (by omega) | exact hO50.cellL 1 rfl rfl | exact hO50.cellI 2 rfl _ (by omega) (by omega) | exact hO50.cellL 2 rfl rfl | exact hO50.cellI 3 rfl _ (by omega) (by omega) | exact hO50.cellL 3 rfl rfl | exact hO50.cellI 4 rfl _ (by omega) (by omega) | exact hO50.cellL 4 rfl rfl | exact hO50.cellI 5 rfl _ (by omega) (by omega) | exact hO50.cellL 5 rfl rfl)) ?_
            refine rt_v rfl rfl rfl (ov_move rfl rfl) ?_
            refine rt_v rfl rfl rfl (ov_index1 rfl Try.underlying23 (by kernel_rfl) rfl rfl ⟨by omega, by omega⟩ (by first | rfl | exact hca (by omega))) ?_
            refine rt_v rfl rfl rfl (ov_load rfl Try.underlying2 rfl rfl (by first | exact hcash _ hO50.below _ (by omega) (by omega) | exact hO50.cellI 0 rfl _ (by omega) (by omega) | exact hO50.cellL 0 rfl rfl | exact hO50.cellI 1 rfl _ (by omega) (by omega) | exact hO50.cellL 1 rfl rfl | exact hO50.cellI 2 rfl _ (by omega) (by omega) | exact hO50.cellL 2 rfl rfl | exact hO50.cellI 3 rfl _ (by omega) (by omega) | exact hO50.cellL 3 rfl rfl | exact hO50.cellI 4 rfl _ (by omega) (by omega) | exact hO50.cellL 4 rfl rfl | exact hO50.cellI 5 rfl _ (by omega) (by omega) | exact hO50.cellL 5 rfl rfl)) ?_
            refine rt_v rfl rfl rfl (ov_move rfl rfl) ?_
            refine rt_v rfl rfl rfl (ov_add rfl rfl rfl (by omega)) ?_
            refine rt_v rfl rfl rfl (ov_index1 rfl Try.underlying23 (by kernel_rfl) rfl rfl ⟨by omega, by omega⟩ (by first | rfl | exact hca (by omega))) ?_
            refine rt_nil ?_
            refine rl_ow rfl (ow_store rfl rfl (by kernel_rfl) hO50 0 rfl rfl ⟨by omega, by omega⟩ rfl rfl) ?_
            rintro _ w51 ⟨rfl, hO52, hs53⟩
            have hup : ∀ i : Int, 0 ≤ i → i < n → upd G party (.int .i64 (cash party + (lo + hi) / 2)) i = .int .i64 (upd cash party (cash party + (lo + hi) / 2) i) := fun i i0 i1 => by unfold upd; split; rfl; (rename_i e; exact hG i i0 i1 e)
            have hcu : ∀ i : Int, 0 ≤ i → i < n → 0 ≤ upd cash party (cash party + (lo + hi) / 2) i ∧ upd cash party (cash party + (lo + hi) / 2) i ≤ 1000000000 := fun i i0 i1 => by unfold upd; split; omega; (have := hc i i0 i1; omega)
            refine rl_nil ?_
            refine run_seq ?_
            refine run_held (fun w' => Own w.heap.size w w' ([some (vch cb7 2 p7 (upd G party (.int .i64 (cash party + (lo + hi) / 2)))), some (lch b7 37 [.slice ao n c, .slice (some ⟨cb7, 0, none⟩) n p7]), some (lch b1 37 [.slice ao n c, .slice ac n cc])])) mixed ?_
            have hO55 := hO52.drew
            generalize World.drew w51 = w54 at hO55 ⊢
            have hS56 : Own w.heap.size w w54 ([some (vch cb7 2 p7 (upd G party (.int .i64 (cash party + (lo + hi) / 2)))), some (lch b7 37 [.slice ao n c, .slice (some ⟨cb7, 0, none⟩) n p7]), some (lch b1 37 [.slice ao n c, .slice ac n cc])]) := by first | exact hO55 | exact hO55.tail
            refine rh_v 0 rfl (by kernel_rfl) rfl rfl rfl hS56 (fun _ hS => ov_loadW rfl Try.underlying37 rfl (by kernel_rfl) rfl hS 1 rfl) ?_
            refine rh_v 1 rfl (by kernel_rfl) rfl rfl rfl hS56 (fun _ hS => ov_loadW rfl Try.underlying37 rfl (by kernel_rfl) rfl hS 1 rfl) ?_
            refine rh_v 4 rfl (by kernel_rfl) rfl rfl rfl hS56 (fun _ hS => ov_move rfl rfl) ?_
            refine rh_any1 2 (by kernel_rfl) ?_
            refine rc_op rfl rfl (ow_call2 callable_73 rfl rfl rfl rfl rfl (clear_any ao _ n c p7 D (upd cash party (cash party + (lo + hi) / 2)) _ hv hcu (h.later hO55.below) (((hO55.readsI 0 rfl).take hq1).congr hup)) (by intro e w' hp; obtain ⟨p, rfl, hp, hb2⟩ := hp; exact ⟨_, rfl⟩)) ?_
            rintro _ w59 ⟨_, v57, he60, rfl, hp58⟩
            obtain ⟨p, rfl, hp, hb2⟩ := hp58
            injection he60 with he60; subst he60
            have hO61 := hO55.past hb2
            have hS62 : Own w.heap.size w w59 ([some (vch cb7 2 p7 (upd G party (.int .i64 (cash party + (lo + hi) / 2)))), some (lch b7 37 [.slice ao n c, .slice (some ⟨cb7, 0, none⟩) n p7]), some (lch b1 37 [.slice ao n c, .slice ac n cc])]) := by first | exact hO61 | exact hO61.tail
            refine ⟨hS62, ?_⟩
            refine rh_any1 3 (by kernel_rfl) ?_
            refine rc_op rfl rfl (ow_call2 callable_72 rfl rfl rfl rfl rfl (failing_any ao n c D _ p _ hv (h.later hO61.below)) (by intro e w' hp; obtain ⟨vf, cf, rfl, hrf, hOf⟩ := hp; exact ⟨_, rfl⟩)) ?_
            rintro _ w65 ⟨_, v63, he66, rfl, hp64⟩
            obtain ⟨vf, cf, rfl, hrf, hOf⟩ := hp64
            injection he66 with he66; subst he66
            have hO67 := hO61.join hOf
            have hS68 : Own w.heap.size w w65 ([some (vch cb7 2 p7 (upd G party (.int .i64 (cash party + (lo + hi) / 2)))), some (lch b7 37 [.slice ao n c, .slice (some ⟨cb7, 0, none⟩) n p7]), some (lch b1 37 [.slice ao n c, .slice ac n cc])]) := by first | exact hO67 | exact hO67.tail
            refine ⟨hS68, ?_⟩
            obtain ⟨af, pf, rfl⟩ := hrf.val
            have hlen : (flg n D p).length ≤ n := pk_len _ _
            refine rh_any1 5 (by kernel_rfl) ?_
            refine rc_op rfl rfl (ow_call2 callable_71 rfl rfl rfl rfl rfl (containsInt_any af (flg n D p).length pf (lF (flg n D p)) party _ (by omega) (hrf.reads hO67 0 rfl)) (by intro e w' hp; obtain ⟨⟨bb, rfl, hbb⟩, hb4⟩ := hp; exact ⟨_, rfl⟩)) ?_
            rintro _ w71 ⟨_, v69, he72, rfl, hp70⟩
            obtain ⟨⟨bb, rfl, hbb⟩, hb4⟩ := hp70
            injection he72 with he72; subst he72
            have hO73 := hO67.past hb4
            have hS74 : Own w.heap.size w w71 ([some (vch cb7 2 p7 (upd G party (.int .i64 (cash party + (lo + hi) / 2)))), some (lch b7 37 [.slice ao n c, .slice (some ⟨cb7, 0, none⟩) n p7]), some (lch b1 37 [.slice ao n c, .slice ac n cc])]) := by first | exact hO73 | exact hO73.tail
            refine ⟨hS74, ?_⟩
            have hbf : bb = true ↔ FailsAt n D cash party ((lo + hi) / 2) := (hbb.trans lF_mem.symm).trans ((mem_flg hp0 hp1).trans (FailsAt.iff hp hp0 hp1).symm)
            refine rh_done (by kernel_rfl) ?_
            first | refine run_cond_dec rfl (fun h4 => ?_) (fun h4 => ?_) | refine run_cond rfl (fun h4 => ?_) (fun h4 => ?_)
            · refine run_region ?_
              refine rl_v rfl rfl rfl (ov_move rfl rfl) ?_
              refine rl_v rfl rfl rfl (ov_add rfl rfl rfl (by omega)) ?_
              refine rl_v rfl rfl rfl (ov_assign rfl rfl) ?_
              refine rl_nil ?_
              refine run_inBlock ?_
              refine Run.use (ih48 ((lo + hi) / 2 + 1) (hi) (upd G party (.int .i64 (cash party + (lo + hi) / 2))) _ ?_ ?_) (And.intro (by first | with_reducible rfl | exact slot_int rfl (by first | omega) | rfl) (And.intro (by first | with_reducible rfl | exact slot_int rfl (by first | omega) | rfl) (And.intro rfl (And.intro rfl (And.intro rfl trivial)))))
              · first | omega | (dsimp only; omega)
              · exact ⟨by omega, by omega, by omega, .inr (by rw [Int.add_sub_cancel]; exact hbf.1 h4), hhi, fun j j0 j1 e => by unfold upd; rw [if_neg e]; exact hG j j0 j1 e, hO73.tail⟩
            · refine run_region ?_
              refine rl_v rfl rfl rfl (ov_move rfl rfl) ?_
              refine rl_v rfl rfl rfl (ov_assign rfl rfl) ?_
              refine rl_nil ?_
              refine run_inBlock ?_
              refine Run.use (ih48 (lo) ((lo + hi) / 2) (upd G party (.int .i64 (cash party + (lo + hi) / 2))) _ ?_ ?_) (And.intro (by first | with_reducible rfl | exact slot_int rfl (by first | omega) | rfl) (And.intro (by first | with_reducible rfl | exact slot_int rfl (by first | omega) | rfl) (And.intro rfl (And.intro rfl (And.intro rfl trivial)))))
              · first | omega | (dsimp only; omega)
              · exact ⟨by omega, by omega, by omega, hlo, fun hf => absurd (hbf.2 hf) (by rw [h4]; decide), fun j j0 j1 e => by unfold upd; rw [if_neg e]; exact hG j j0 j1 e, hO73.tail⟩
          · obtain rfl : lo = hi := by omega
            refine run_exit rfl ?_
            refine run_seq ?_
            refine run_region ?_
            refine rl_v rfl rfl rfl (ov_move rfl rfl) ?_
            refine rl_v rfl rfl rfl (ov_assign rfl rfl) ?_
            refine rl_v rfl rfl rfl (ov_assign rfl rfl) ?_
            refine rl_nil ?_
            refine run_ret Try.func30 (res2 Try.results30 rfl rfl) ?_
            exact ⟨⟨lo, 0, rfl, .inr ⟨⟨hp0, hp1⟩, rfl, hl0, hh, hhi, hlo⟩⟩, hO.below⟩

theorem netRescues_any (ao bo : Option Addr) (G Gc R cb : Nat) (L : Int → Nat) (D0 : Int → Int → Int) (c0 : Int → Int) (party0 : Int) (w : World)
    (h : ITab w.heap.size w ao G L (fun r c => .int .i64 (D0 r c))) (h2 : IAt w.heap.size w bo R (fun i => .int .i64 (c0 i))) :
    Calls Try.prog 5 #[.agg [.slice ao G Gc, .slice bo R cb].toArray, .int .i64 party0] w fun e w' => e = .returned (.bool true) ∧ Below w.heap.size w w' := by
  refine calls_of_run (F := [(0, _), (1, _)]) Try.func5 rfl Try.ntmps5 rfl rfl ?_
  have hO0 := Own.init w
  refine run_seq ?_
  refine run_region ?_
  refine rl_ow rfl (ow_box _ rfl rfl rfl rfl rfl hO0) ?_
  rintro _ w1 ⟨b2, rfl, hO2, hs3⟩
  refine rl_v rfl rfl rfl (ov_assign rfl rfl) ?_
  refine rl_nil ?_
  refine run_seq ?_
  refine run_region ?_
  refine rl_v rfl rfl rfl (ov_loadW rfl Try.underlying35 rfl (by kernel_rfl) rfl hO2 0 rfl) ?_
  refine rl_call callable_19 rfl rfl rfl rfl rfl rfl (crisis_any ao bo G Gc R cb 6 L D0 c0 _ (by omega) (by omega) (h.later hO2.below) (h2.later hO2.below)) (fun e4 w5 hp6 => ?_)
  obtain ⟨to, tx, tc, xc, n, D, cash, H, cc, rfl, hT, hrc, hOc, hv, hn6, hD60, hcash⟩ := hp6
  refine ⟨_, rfl, ?_⟩
  have hOA := hO2.join hOc
  have hIT := hT.reads (H' := []) (by simpa using hOc.tail)
  have hIC := hrc.reads hOc 0 rfl
  have hI0 := Own.init w5
  have hn1 := hv.pos
  have hc6 : ∀ i : Int, 0 ≤ i → i < n → 0 ≤ cash i ∧ cash i ≤ 1000000 := fun i _ _ => hcash i
  refine rl_ow rfl (ow_alloc _ rfl rfl rfl zero_35 rfl hI0) ?_
  rintro _ w7 ⟨b5, rfl, hO8, hs9⟩
  refine rl_ow rfl (ow_storeW rfl rfl (by kernel_rfl) hO8 0 rfl rfl (by rfl) rfl (by rfl)) ?_
  rintro _ w10 ⟨rfl, hO11, hs12⟩
  refine rl_nil ?_
  refine run_seq ?_
  refine run_region ?_
  refine rl_v rfl rfl rfl (ov_loadW rfl Try.underlying35 rfl (by kernel_rfl) rfl hO11 0 rfl) ?_
  refine rl_call callable_20 rfl rfl rfl rfl rfl rfl (give_any to tx n tc n xc _) (fun e13 w14 hp15 => ?_)
  obtain ⟨rfl, hbg⟩ := hp15
  refine ⟨_, rfl, ?_⟩
  have hO16 := hO11.past hbg
  refine rl_v rfl rfl rfl (ov_move rfl rfl) ?_
  refine rl_call callable_30 rfl rfl rfl rfl rfl rfl (rescue_any to tx n tc xc D cash party0 _ hv hc6 (hIT.later hO16.below) (hIC.later hO16.below)) (fun e17 w18 hp19 => ?_)
  obtain ⟨⟨r, f, rfl, hcase⟩, hb3⟩ := hp19
  refine ⟨_, rfl, ?_⟩
  have hO20 := hO16.past hb3
  refine rl_v rfl rfl rfl (ov_move rfl rfl) ?_
  refine rl_v rfl rfl rfl (ov_extract rfl rfl (by rfl)) ?_
  refine rl_v rfl rfl rfl (ov_extract rfl rfl (by rfl)) ?_
  refine rl_v rfl rfl rfl (ov_assign rfl rfl) ?_
  refine rl_v rfl rfl rfl (ov_assign rfl rfl) ?_
  refine rl_nil ?_
  refine run_seq ?_
  refine run_seq ?_
  refine run_region_join 25 (.bool (decide (party0 < 0 ∨ n ≤ party0))) [1, 5, 6, 7] (fun hk21 => ?_) ?_
  · refine rl_v rfl rfl rfl (ov_move rfl rfl) ?_
    refine rl_v rfl rfl rfl (ov_lss rfl rfl rfl) ?_
    refine rl_v rfl rfl rfl (ov_move rfl rfl) ?_
    first | refine rl_split_dec 19 rfl (fun hg22 => ?_) (fun hg22 => ?_) | refine rl_split 19 rfl (fun hg22 => ?_) (fun hg22 => ?_)
    · refine rl_gskip rfl rfl rfl rfl rfl rfl ?_
      refine rl_gskip rfl rfl rfl rfl rfl rfl ?_
      refine rl_gskip rfl rfl rfl rfl rfl rfl ?_
      refine rl_gskip rfl rfl rfl rfl rfl rfl ?_
      refine rl_gskip rfl rfl rfl rfl rfl rfl ?_
      refine rl_v rfl rfl rfl (ov_pick_t rfl rfl rfl) ?_
      refine rl_nil (hk21 _ (jbt rfl (by first | omega | grind)) (And.intro rfl (And.intro rfl (And.intro rfl (And.intro rfl trivial)))))
    · refine rl_gv rfl rfl rfl rfl rfl (ov_move rfl rfl) ?_
      refine rl_gv rfl rfl rfl rfl rfl (ov_fieldS rfl Try.underlying35 rfl (fo := 0) rfl (by kernel_rfl) rfl) ?_
      refine rl_gv rfl rfl rfl rfl rfl (ov_load rfl Try.underlying22 rfl rfl (by first | exact hO20.cellI 0 rfl _ (by omega) (by omega) | exact hO20.cellL 0 rfl rfl | exact hO20.cellI 1 rfl _ (by omega) (by omega) | exact hO20.cellL 1 rfl rfl | exact hO20.cellI 2 rfl _ (by omega) (by omega) | exact hO20.cellL 2 rfl rfl | exact hO20.cellI 3 rfl _ (by omega) (by omega) | exact hO20.cellL 3 rfl rfl | exact hO20.cellI 4 rfl _ (by omega) (by omega) | exact hO20.cellL 4 rfl rfl | exact hO20.cellI 5 rfl _ (by omega) (by omega) | exact hO20.cellL 5 rfl rfl)) ?_
      refine rl_gv rfl rfl rfl rfl rfl (ov_len rfl Try.underlying22 rfl) ?_
      refine rl_gv rfl rfl rfl rfl rfl (ov_geq rfl rfl rfl) ?_
      refine rl_v rfl rfl rfl (ov_pick_f rfl rfl rfl) ?_
      refine rl_nil (hk21 _ (jbd rfl (by first | omega | grind)) (And.intro rfl (And.intro rfl (And.intro rfl (And.intro rfl trivial)))))
  · show Run _ _ _ _ [(25, _), (1, _), (5, _), (6, _), (7, _)] _ _
    refine Run.keep [1, 5, 6, 7, 25] (F' := [(1, _), (5, _), (6, _), (7, _), (25, _)]) rfl ?_
    refine run_join3 (fun (pt : Int) (r2 : Int) (f2 : Int) => [(1, .int .i64 pt), (6, .int .i64 r2), (7, .int .i64 f2)]) [5] (fun (pt : Int) (r2 : Int) (f2 : Int) (w23 : World) => (0 ≤ pt ∧ pt < n) ∧ f2 = 0 ∧ 0 ≤ r2 ∧ r2 ≤ ow n D pt ∧ ¬ FailsAt n D cash pt r2 ∧ (r2 = 0 ∨ FailsAt n D cash pt (r2 - 1)) ∧ Own w5.heap.size w5 w23 [some (lch b5 35 [.slice to n tc, .slice tx n xc])]) (fun hk24 => ?_) ?_
    · first | refine run_cond_dec rfl (fun h1 => ?_) (fun h1 => ?_) | refine run_cond rfl (fun h1 => ?_) (fun h1 => ?_)
      · obtain ⟨hr, hf⟩ : r = 0 ∧ f = 1 := by
          rcases hcase with ⟨_, a, b⟩ | ⟨a, _⟩
          · exact ⟨a, b⟩
          · omega
        clear hcase
        refine run_seq ?_
        refine run_seq ?_
        refine run_region ?_
        refine rl_v rfl rfl rfl (ov_move rfl rfl) ?_
        refine rl_v rfl rfl rfl (ov_neq rfl rfl rfl) ?_
        refine rl_v rfl rfl rfl (ov_move rfl rfl) ?_
        first | refine rl_split_dec 28 rfl (fun hg25 => ?_) (fun hg25 => ?_) | refine rl_split 28 rfl (fun hg25 => ?_) (fun hg25 => ?_)
        · refine rl_gskip rfl rfl rfl rfl rfl rfl ?_
          refine rl_gskip rfl rfl rfl rfl rfl rfl ?_
          refine rl_v rfl rfl rfl (ov_pick_t rfl rfl rfl) ?_
          refine rl_nil ?_
          refine run_cond_t rfl ?_
          exfalso; omega
        · refine rl_gv rfl rfl rfl rfl rfl (ov_move rfl rfl) ?_
          refine rl_gv rfl rfl rfl rfl rfl (ov_neq rfl rfl rfl) ?_
          refine rl_v rfl rfl rfl (ov_pick_f rfl rfl rfl) ?_
          refine rl_nil ?_
          first | refine run_cond_dec rfl (fun h3 => ?_) (fun h3 => ?_) | refine run_cond rfl (fun h3 => ?_) (fun h3 => ?_)
          · exfalso; omega
          · have hmd := mod_le party0 ((n : Int) - 1) (by omega) (by omega)
            rw [Int.sub_add_cancel] at hmd
            have hun : IntKind.u64.wrap (n : Int) ≠ 0 := by rw [IntWalk.u64_in _ (by omega)]; omega
            refine run_skip ?_
            refine run_seq ?_
            refine run_region ?_
            refine rl_v rfl rfl rfl (ov_move rfl rfl) ?_
            refine rl_v rfl rfl rfl (ov_conv rfl Try.underlying3 Try.underlying51 rfl) ?_
            refine rl_v rfl rfl rfl (ov_fieldS rfl Try.underlying35 rfl (fo := 0) rfl (by kernel_rfl) rfl) ?_
            refine rl_v rfl rfl rfl (ov_load rfl Try.underlying22 rfl rfl (by first | exact hO20.cellI 0 rfl _ (by omega) (by omega) | exact hO20.cellL 0 rfl rfl | exact hO20.cellI 1 rfl _ (by omega) (by omega) | exact hO20.cellL 1 rfl rfl | exact hO20.cellI 2 rfl _ (by omega) (by omega) | exact hO20.cellL 2 rfl rfl | exact hO20.cellI 3 rfl _ (by omega) (by omega) | exact hO20.cellL 3 rfl rfl | exact hO20.cellI 4 rfl _ (by omega) (by omega) | exact hO20.cellL 4 rfl rfl | exact hO20.cellI 5 rfl _ (by omega) (by omega) | exact hO20.cellL 5 rfl rfl)) ?_
            refine rl_v rfl rfl rfl (ov_len rfl Try.underlying22 rfl) ?_
            refine rl_v rfl rfl rfl (ov_conv rfl Try.underlying3 Try.underlying51 rfl) ?_
            refine rl_v rfl rfl rfl (ov_rem rfl rfl rfl (wrap_u64_nonneg _) hun) ?_
            refine rl_v rfl rfl rfl (ov_conv rfl Try.underlying51 Try.underlying3 rfl) ?_
            refine rl_v rfl rfl rfl (ov_assign rfl rfl) ?_
            refine rl_nil ?_
            refine run_region ?_
            refine rl_v rfl rfl rfl (ov_loadW rfl Try.underlying35 rfl (by kernel_rfl) rfl hO20 0 rfl) ?_
            refine rl_call callable_20 rfl rfl rfl rfl rfl rfl (give_any to tx n tc n xc _) (fun e26 w27 hp28 => ?_)
            obtain ⟨rfl, hbg2⟩ := hp28
            refine ⟨_, rfl, ?_⟩
            have hO29 := hO20.past hbg2
            refine rl_v rfl rfl rfl (ov_move rfl rfl) ?_
            refine rl_call callable_30 rfl rfl rfl rfl rfl rfl (rescue_any to tx n tc xc D cash _ _ hv hc6 (hIT.later hO29.below) (hIC.later hO29.below)) (fun e30 w31 hp32 => ?_)
            obtain ⟨⟨r', f', rfl, hcase⟩, hb4⟩ := hp32
            refine ⟨_, rfl, ?_⟩
            have hO33 := hO29.past hb4
            have hok := hcase.resolve_left (fun hh => by have := hh.1; omega)
            refine rl_v rfl rfl rfl (ov_move rfl rfl) ?_
            refine rl_v rfl rfl rfl (ov_extract rfl rfl (by rfl)) ?_
            refine rl_v rfl rfl rfl (ov_extract rfl rfl (by rfl)) ?_
            refine rl_v rfl rfl rfl (ov_assign rfl rfl) ?_
            refine rl_v rfl rfl rfl (ov_assign rfl rfl) ?_
            refine rl_nil ?_
            refine Run.use (hk24 (IntKind.i64.wrap (IntKind.u64.wrap party0 % IntKind.u64.wrap (n : Int))) (r') (f') _ ?_) (And.intro (by first | with_reducible rfl | exact slot_int rfl (by first | omega) | rfl) (And.intro (by first | with_reducible rfl | exact slot_int rfl (by first | omega) | rfl) (And.intro (by first | with_reducible rfl | exact slot_int rfl (by first | omega) | rfl) (And.intro rfl trivial))))
            exact ⟨hok.1, hok.2.1, hok.2.2.1, hok.2.2.2.1, hok.2.2.2.2.1, hok.2.2.2.2.2, hO33⟩
      · have hok := hcase.resolve_left (fun hh => h1 hh.1)
        refine run_skip ?_
        refine Run.use (hk24 (party0) (r) (f) _ ?_) (And.intro (by first | with_reducible rfl | exact slot_int rfl (by first | omega) | rfl) (And.intro (by first | with_reducible rfl | exact slot_int rfl (by first | omega) | rfl) (And.intro (by first | with_reducible rfl | exact slot_int rfl (by first | omega) | rfl) (And.intro rfl trivial))))
        exact ⟨hok.1, hok.2.1, hok.2.2.1, hok.2.2.2.1, hok.2.2.2.2.1, hok.2.2.2.2.2, hO20⟩
    · intro pt r2 f2 w23 hJw23
      obtain ⟨⟨hp0, hp1⟩, hf2, hr0, hr1, hr2, hr3, hO⟩ := hJw23
      show Run _ _ _ _ [(1, _), (6, _), (7, _), (5, _)] _ _
      clear hcase
      subst hf2
      have hsm := ow_small hv hD60 pt
      have hle1000 : r2 ≤ 1000 := by omega
      refine run_seq ?_
      refine run_region ?_
      refine rl_v rfl rfl rfl (ov_move rfl rfl) ?_
      refine rl_v rfl rfl rfl (ov_eql rfl rfl rfl) ?_
      refine rl_v rfl rfl rfl (ov_move rfl rfl) ?_
      refine rl_known 49 rfl (rfl) ?_
      refine rl_gv rfl rfl rfl rfl rfl (ov_move rfl rfl) ?_
      refine rl_gv rfl rfl rfl rfl rfl (ov_geq rfl rfl rfl) ?_
      refine rl_v rfl rfl rfl (ov_pick_t rfl rfl rfl) ?_
      refine rl_v rfl rfl rfl (ov_move rfl rfl) ?_
      refine rl_known 53 rfl (hr0) ?_
      refine rl_gv rfl rfl rfl rfl rfl (ov_move rfl rfl) ?_
      refine rl_gv rfl rfl rfl rfl rfl (ov_leq rfl rfl rfl) ?_
      refine rl_v rfl rfl rfl (ov_pick_t rfl rfl rfl) ?_
      refine rl_v rfl rfl rfl (ov_move rfl rfl) ?_
      refine rl_known 57 rfl (hle1000) ?_
      refine rl_gv rfl rfl rfl rfl rfl (ov_loadW rfl Try.underlying35 rfl (by kernel_rfl) rfl hO 0 rfl) ?_
      refine rl_gv rfl rfl rfl rfl rfl (ov_move rfl rfl) ?_
      refine rl_gv rfl rfl rfl rfl rfl (ov_move rfl rfl) ?_
      refine rl_gcall callable_31 rfl rfl rfl rfl rfl rfl rfl rfl (refFails_any to tx n tc xc D cash pt r2 _ hv hc6 hp0 hp1 (by omega) (hIT.later hO.below) (hIC.later hO.below)) (fun e34 w35 hp36 => ?_)
      obtain ⟨⟨b1, rfl, hb1⟩, hb4⟩ := hp36
      refine ⟨_, rfl, ?_⟩
      have hO37 := hO.past hb4
      obtain rfl : b1 = false := by cases b1; rfl; exact absurd (hb1.1 rfl) hr2
      refine rl_gv rfl rfl rfl rfl rfl (ov_not rfl rfl) ?_
      refine rl_v rfl rfl rfl (ov_pick_t rfl rfl rfl) ?_
      refine rl_v rfl rfl rfl (ov_move rfl rfl) ?_
      first | refine rl_split_dec 64 rfl (fun hx => ?_) (fun hx => ?_) | refine rl_split 64 rfl (fun hx => ?_) (fun hx => ?_)
      · refine rl_gv rfl rfl rfl rfl rfl (ov_move rfl rfl) ?_
        refine rl_gv rfl rfl rfl rfl rfl (ov_eql rfl rfl rfl) ?_
        refine rl_gv rfl rfl rfl rfl rfl (ov_move rfl rfl) ?_
        first | refine rl_split_dec 67 rfl (fun hy => ?_) (fun hy => ?_) | refine rl_split 67 rfl (fun hy => ?_) (fun hy => ?_)
        · refine rl_gskip rfl rfl rfl rfl rfl rfl ?_
          refine rl_gskip rfl rfl rfl rfl rfl rfl ?_
          refine rl_gskip rfl rfl rfl rfl rfl rfl ?_
          refine rl_gskip rfl rfl rfl rfl rfl rfl ?_
          refine rl_gskip rfl rfl rfl rfl rfl rfl ?_
          refine rl_gv rfl rfl rfl rfl rfl (ov_pick_t rfl rfl rfl) ?_
          refine rl_v rfl rfl rfl (ov_pick_t rfl rfl rfl) ?_
          refine rl_v rfl rfl rfl (ov_move rfl rfl) ?_
          refine rl_gcall callable_18 rfl rfl rfl rfl rfl rfl rfl rfl (awake_any _) (fun e40 w41 hp42 => ?_)
          obtain ⟨rfl, hb5⟩ := hp42
          refine ⟨_, rfl, ?_⟩
          have hO43 := hO37.past hb5
          refine rl_v rfl rfl rfl (ov_pick_t rfl rfl rfl) ?_
          refine rl_v rfl rfl rfl (ov_assign rfl rfl) ?_
          refine rl_nil ?_
          refine run_ret Try.func5 (res1 Try.results5 rfl) ?_
          exact ⟨rfl, (hOA.join hO43).below⟩
        · refine rl_gv rfl rfl rfl rfl rfl (ov_loadW rfl Try.underlying35 rfl (by kernel_rfl) rfl hO37 0 rfl) ?_
          refine rl_gv rfl rfl rfl rfl rfl (ov_move rfl rfl) ?_
          refine rl_gv rfl rfl rfl rfl rfl (ov_move rfl rfl) ?_
          refine rl_gv rfl rfl rfl rfl rfl (ov_sub rfl rfl rfl (by omega)) ?_
          refine rl_gcall callable_31 rfl rfl rfl rfl rfl rfl rfl rfl (refFails_any to tx n tc xc D cash pt (r2 - 1) _ hv hc6 hp0 hp1 (by omega) (hIT.later hO37.below) (hIC.later hO37.below)) (fun e44 w45 hp46 => ?_)
          obtain ⟨⟨b2, rfl, hb2⟩, hb6⟩ := hp46
          refine ⟨_, rfl, ?_⟩
          have hO47 := hO37.past hb6
          obtain rfl : b2 = true := hb2.2 (hr3.resolve_left hy)
          refine rl_gv rfl rfl rfl rfl rfl (ov_pick_f rfl rfl rfl) ?_
          refine rl_v rfl rfl rfl (ov_pick_t rfl rfl rfl) ?_
          refine rl_v rfl rfl rfl (ov_move rfl rfl) ?_
          first | refine rl_split_dec 75 rfl (fun hz => ?_) (fun hz => ?_) | refine rl_split 75 rfl (fun hz => ?_) (fun hz => ?_)
          · refine rl_gcall callable_18 rfl rfl rfl rfl rfl rfl rfl rfl (awake_any _) (fun e49 w50 hp51 => ?_)
            obtain ⟨rfl, hb5⟩ := hp51
            refine ⟨_, rfl, ?_⟩
            have hO52 := hO47.past hb5
            refine rl_v rfl rfl rfl (ov_pick_t rfl rfl rfl) ?_
            refine rl_v rfl rfl rfl (ov_assign rfl rfl) ?_
            refine rl_nil ?_
            refine run_ret Try.func5 (res1 Try.results5 rfl) ?_
            exact ⟨rfl, (hOA.join hO52).below⟩
          · exfalso; cases hz
      · exfalso; cases hx
end Go.Proofs.Ytiambddcpflkhaa
