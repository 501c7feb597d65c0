/- Crises: the statements' crisis; the reference's Received, Paid. -/
import Derived.Test.YtiambddcpflkhaaNetL
set_option maxRecDepth 100000
namespace Go.Proofs.Ytiambddcpflkhaa
open Go.RowKit Go.Proofs

theorem mod100 (v : Int) : 0 ≤ IntKind.i64.wrap (IntKind.u64.wrap v % 100) ∧ IntKind.i64.wrap (IntKind.u64.wrap v % 100) ≤ 99 := by
  have h3 := Int.emod_lt_of_pos (IntKind.u64.wrap v) (show (0 : Int) < 100 by omega)
  have h4 := Int.emod_nonneg (IntKind.u64.wrap v) (show (100 : Int) ≠ 0 by omega)
  rw [IntWalk.i64_in _ (by omega)]
  omega

theorem crisis_any (ao bo : Option Addr) (G Gc R cb : Nat) (most : Int) (L : Int → Nat) (D0 : Int → Int → Int) (c0 : Int → Int) (w : World) (hm1 : 1 ≤ most) (hm2 : most ≤ 32)
    (h : ITab w.heap.size w ao G L (fun r c => .int .i64 (D0 r c))) (h2 : IAt w.heap.size w bo R (fun i => .int .i64 (c0 i))) :
    Calls Try.prog 19 #[.agg [.slice ao G Gc, .slice bo R cb].toArray, .int .i64 most] w fun e w' =>
      ∃ (to tx : Option Addr) (tc xc n : Nat) (D : Int → Int → Int) (cash : Int → Int) (H : List (Option Blk)) (cc : Option Blk), e = .returned (.agg [.slice to n tc, .slice tx n xc].toArray) ∧
        OTab (.slice to n tc) 23 2 n (fun _ => n) (fun r c => .int .i64 (D r c)) H ∧ IRow (.slice tx n xc) 2 n (fun i => .int .i64 (cash i)) cc ∧ Own w.heap.size w w' (cc :: H) ∧
        Valid n D ∧ n ≤ most ∧ (∀ r c, D r c ≤ 60) ∧ ∀ i, 0 ≤ cash i ∧ cash i ≤ 1000000 := by
  obtain ⟨qb, qo, hqa, hq⟩ := h2.open
  refine calls_of_run (F := [(0, _), (1, _)]) Try.func19 rfl Try.ntmps19 rfl rfl ?_
  have hO0 := Own.init w
  refine run_seq ?_
  refine run_region ?_
  refine rl_ow rfl (ow_box _ rfl rfl rfl rfl rfl hO0) ?_
  rintro _ w1 ⟨b1, rfl, hO2, hs3⟩
  refine rl_ow rfl (ow_alloc _ rfl rfl rfl zero_35 rfl hO2) ?_
  rintro _ w4 ⟨b2, rfl, hO5, hs6⟩
  refine rl_nil ?_
  refine run_seq ?_
  refine run_region ?_
  refine rl_v rfl rfl rfl (ov_fieldS rfl Try.underlying35 rfl (fo := 0) rfl (by kernel_rfl) rfl) ?_
  refine rl_v rfl rfl rfl (ov_load rfl Try.underlying22 rfl rfl (by first | exact hO5.cellI 0 rfl _ (by omega) (by omega) | exact hO5.cellL 0 rfl rfl | exact hO5.cellI 1 rfl _ (by omega) (by omega) | exact hO5.cellL 1 rfl rfl | exact hO5.cellI 2 rfl _ (by omega) (by omega) | exact hO5.cellL 2 rfl rfl | exact hO5.cellI 3 rfl _ (by omega) (by omega) | exact hO5.cellL 3 rfl rfl | exact hO5.cellI 4 rfl _ (by omega) (by omega) | exact hO5.cellL 4 rfl rfl | exact hO5.cellI 5 rfl _ (by omega) (by omega) | exact hO5.cellL 5 rfl rfl)) ?_
  refine rl_v rfl rfl rfl (ov_move rfl rfl) ?_
  refine rl_call callable_13 rfl rfl rfl rfl rfl rfl (tame_any ao G Gc most 60 L D0 _ hm1 (by omega) (by omega) (h.later hO5.below)) (fun e7 w8 hp9 => ?_)
  obtain ⟨v, n, D, H, rfl, hT, hOt, hn1, hn2, hD, hdia⟩ := hp9
  refine ⟨_, rfl, ?_⟩
  have hO10 := hO5.join hOt
  obtain ⟨to, tc, rfl⟩ := hT.val
  refine rl_v rfl rfl rfl (ov_buildL rfl lay_35 rfl (us := [_, _]) rfl) ?_
  refine rl_ow rfl (ow_alloc _ rfl rfl rfl zero_35 rfl hO10) ?_
  rintro _ w11 ⟨b3, rfl, hO12, hs13⟩
  refine rl_ow rfl (ow_storeW rfl rfl (by kernel_rfl) hO12 0 rfl rfl (by rfl) rfl (by rfl)) ?_
  rintro _ w14 ⟨rfl, hO15, hs16⟩
  have hO9 := hO15.perm (H' := some (lch b3 35 [.slice to n tc, .slice none 0 0]) :: some (lch b2 35 [.slice none 0 0, .slice none 0 0]) :: some (lch b1 35 [.slice ao G Gc, .slice bo R cb]) :: H) (List.Perm.cons _ List.perm_append_comm)
  refine rl_nil ?_
  refine run_seq ?_
  refine run_seq ?_
  refine run_region ?_
  refine rl_v rfl rfl rfl (ov_assign rfl rfl) ?_
  refine rl_nil ?_
  refine run_block ?_
  refine Run.keep [2, 4, 5, 6] (F' := [(2, _), (4, _), (5, _), (6, _)]) rfl ?_
  refine run_loop5 (fun (k : Int) (m : Nat) (vc : Value) (g : Int → Int) (cc : Option Blk) => [(6, .int .i64 k)]) [2, 4, 5] (fun (k : Int) (m : Nat) (vc : Value) (g : Int → Int) (cc : Option Blk) (w17 : World) => k = m ∧ k ≤ n ∧ IRow vc 2 m (fun i => .int .i64 (g i)) cc ∧ (∀ i, 0 ≤ g i ∧ g i ≤ 1000000) ∧ Own w.heap.size w w17 (cc :: some (lch b3 35 [.slice to n tc, vc]) :: some (lch b2 35 [.slice none 0 0, .slice none 0 0]) :: some (lch b1 35 [.slice ao G Gc, .slice bo R cb]) :: H)) (fun (k : Int) (m : Nat) (vc : Value) (g : Int → Int) (cc : Option Blk) => n - m) (0) (0) (.slice none 0 0) (fun _ => 0) (none) ?_ (And.intro (by first | with_reducible rfl | exact slot_int rfl (by first | omega) | rfl) (And.intro rfl (And.intro rfl (And.intro rfl trivial)))) ?_
  · exact ⟨rfl, by omega, IRow.nil _ _, fun _ => ⟨Int.le_refl _, show (0 : Int) ≤ 1000000 by decide⟩, hO9.nil_cons⟩
  intro k m vc g cc w17 hIw17 ih18
  obtain ⟨hk, hk1, hr, hg, hO⟩ := hIw17
  show Run _ _ _ _ [(6, _), (2, _), (4, _), (5, _)] _ _
  refine run_seq ?_
  refine run_seq ?_
  refine run_region ?_
  refine rl_v rfl rfl rfl (ov_move rfl rfl) ?_
  refine rl_v rfl rfl rfl (ov_fieldS rfl Try.underlying35 rfl (fo := 0) rfl (by kernel_rfl) rfl) ?_
  refine rl_v rfl rfl rfl (ov_load rfl Try.underlying22 rfl rfl (by first | exact hq _ hO.below _ (by omega) (by omega) | exact hO.cellI 0 rfl _ (by omega) (by omega) | exact hO.cellL 0 rfl rfl | exact hO.cellI 1 rfl _ (by omega) (by omega) | exact hO.cellL 1 rfl rfl | exact hO.cellI 2 rfl _ (by omega) (by omega) | exact hO.cellL 2 rfl rfl | exact hO.cellI 3 rfl _ (by omega) (by omega) | exact hO.cellL 3 rfl rfl | exact hO.cellI 4 rfl _ (by omega) (by omega) | exact hO.cellL 4 rfl rfl | exact hO.cellI 5 rfl _ (by omega) (by omega) | exact hO.cellL 5 rfl rfl)) ?_
  refine rl_v rfl rfl rfl (ov_len rfl Try.underlying22 rfl) ?_
  refine rl_v rfl rfl rfl (ov_lss rfl rfl rfl) ?_
  refine rl_nil ?_
  first | refine run_cond_dec rfl (fun h3 => ?_) (fun h3 => ?_) | refine run_cond rfl (fun h3 => ?_) (fun h3 => ?_)
  · refine run_skip ?_
    refine run_seq ?_
    refine run_block ?_
    refine run_seq ?_
    refine run_region ?_
    refine rl_v rfl rfl rfl (ov_assign rfl rfl) ?_
    refine rl_nil ?_
    refine run_seq ?_
    refine run_seq ?_
    refine run_region ?_
    refine rl_v rfl rfl rfl (ov_move rfl rfl) ?_
    refine rl_v rfl rfl rfl (ov_fieldS rfl Try.underlying35 rfl (fo := 1) rfl (by kernel_rfl) rfl) ?_
    refine rl_v rfl rfl rfl (ov_load rfl Try.underlying23 rfl rfl (by first | exact hq _ hO.below _ (by omega) (by omega) | exact hO.cellI 0 rfl _ (by omega) (by omega) | exact hO.cellL 0 rfl rfl | exact hO.cellI 1 rfl _ (by omega) (by omega) | exact hO.cellL 1 rfl rfl | exact hO.cellI 2 rfl _ (by omega) (by omega) | exact hO.cellL 2 rfl rfl | exact hO.cellI 3 rfl _ (by omega) (by omega) | exact hO.cellL 3 rfl rfl | exact hO.cellI 4 rfl _ (by omega) (by omega) | exact hO.cellL 4 rfl rfl | exact hO.cellI 5 rfl _ (by omega) (by omega) | exact hO.cellL 5 rfl rfl)) ?_
    refine rl_v rfl rfl rfl (ov_len rfl Try.underlying23 rfl) ?_
    refine rl_v rfl rfl rfl (ov_lss rfl rfl rfl) ?_
    refine rl_nil ?_
    refine Run.keep [2, 4, 5, 6, 7, 24] (F' := [(2, _), (4, _), (5, _), (6, _), (7, _), (24, _)]) rfl ?_
    refine run_join1 (fun (x : Int) => [(7, .int .i64 x)]) [2, 4, 5, 6] (fun (x : Int) (w19 : World) => 0 ≤ x ∧ x ≤ 1000000 ∧ Own w.heap.size w w19 (cc :: some (lch b3 35 [.slice to n tc, vc]) :: some (lch b2 35 [.slice none 0 0, .slice none 0 0]) :: some (lch b1 35 [.slice ao G Gc, .slice bo R cb]) :: H)) (fun hk20 => ?_) ?_
    · first | refine run_cond_dec rfl (fun h4 => ?_) (fun h4 => ?_) | refine run_cond rfl (fun h4 => ?_) (fun h4 => ?_)
      · refine run_seq ?_
        refine run_region ?_
        refine rl_v rfl rfl rfl (ov_fieldS rfl Try.underlying35 rfl (fo := 1) rfl (by kernel_rfl) rfl) ?_
        refine rl_v rfl rfl rfl (ov_load rfl Try.underlying23 rfl rfl (by first | exact hq _ hO.below _ (by omega) (by omega) | exact hO.cellI 0 rfl _ (by omega) (by omega) | exact hO.cellL 0 rfl rfl | exact hO.cellI 1 rfl _ (by omega) (by omega) | exact hO.cellL 1 rfl rfl | exact hO.cellI 2 rfl _ (by omega) (by omega) | exact hO.cellL 2 rfl rfl | exact hO.cellI 3 rfl _ (by omega) (by omega) | exact hO.cellL 3 rfl rfl | exact hO.cellI 4 rfl _ (by omega) (by omega) | exact hO.cellL 4 rfl rfl | exact hO.cellI 5 rfl _ (by omega) (by omega) | exact hO.cellL 5 rfl rfl)) ?_
        refine rl_v rfl rfl rfl (ov_move rfl rfl) ?_
        refine rl_v rfl rfl rfl (ov_index1 rfl Try.underlying23 (by kernel_rfl) rfl rfl ⟨by omega, by omega⟩ (by first | rfl | exact hqa (by omega))) ?_
        refine rl_v rfl rfl rfl (ov_load rfl Try.underlying2 rfl rfl (by first | exact hq _ hO.below _ (by omega) (by omega) | exact hO.cellI 0 rfl _ (by omega) (by omega) | exact hO.cellL 0 rfl rfl | exact hO.cellI 1 rfl _ (by omega) (by omega) | exact hO.cellL 1 rfl rfl | exact hO.cellI 2 rfl _ (by omega) (by omega) | exact hO.cellL 2 rfl rfl | exact hO.cellI 3 rfl _ (by omega) (by omega) | exact hO.cellL 3 rfl rfl | exact hO.cellI 4 rfl _ (by omega) (by omega) | exact hO.cellL 4 rfl rfl | exact hO.cellI 5 rfl _ (by omega) (by omega) | exact hO.cellL 5 rfl rfl)) ?_
        refine rl_v rfl rfl rfl (ov_assign rfl rfl) ?_
        refine rl_nil ?_
        refine run_seq ?_
        refine run_region_join 35 (.bool (decide (c0 k < 0 ∨ 1000000 < c0 k))) [2, 4, 5, 6, 7] (fun hk21 => ?_) ?_
        · refine rl_v rfl rfl rfl (ov_move rfl rfl) ?_
          refine rl_v rfl rfl rfl (ov_lss rfl rfl rfl) ?_
          refine rl_v rfl rfl rfl (ov_move rfl rfl) ?_
          first | refine rl_split_dec 32 rfl (fun hg22 => ?_) (fun hg22 => ?_) | refine rl_split 32 rfl (fun hg22 => ?_) (fun hg22 => ?_)
          · refine rl_gskip rfl rfl rfl rfl rfl rfl ?_
            refine rl_gskip rfl rfl rfl rfl rfl rfl ?_
            refine rl_v rfl rfl rfl (ov_pick_t rfl rfl rfl) ?_
            refine rl_nil (hk21 _ (jbt rfl (by first | omega | grind)) (And.intro rfl (And.intro rfl (And.intro rfl (And.intro rfl (And.intro rfl trivial))))))
          · refine rl_gv rfl rfl rfl rfl rfl (ov_move rfl rfl) ?_
            refine rl_gv rfl rfl rfl rfl rfl (ov_gtr rfl rfl rfl) ?_
            refine rl_v rfl rfl rfl (ov_pick_f rfl rfl rfl) ?_
            refine rl_nil (hk21 _ (jbd rfl (by first | omega | grind)) (And.intro rfl (And.intro rfl (And.intro rfl (And.intro rfl (And.intro rfl trivial))))))
        · show Run _ _ _ _ [(35, _), (2, _), (4, _), (5, _), (6, _), (7, _)] _ _
          first | refine run_cond_dec rfl (fun h5 => ?_) (fun h5 => ?_) | refine run_cond rfl (fun h5 => ?_) (fun h5 => ?_)
          · refine run_region ?_
            refine rl_v rfl rfl rfl (ov_move rfl rfl) ?_
            refine rl_v rfl rfl rfl (ov_conv rfl Try.underlying2 Try.underlying46 rfl) ?_
            refine rl_v rfl rfl rfl (ov_rem rfl rfl rfl (wrap_u64_nonneg _) (by decide)) ?_
            refine rl_v rfl rfl rfl (ov_conv rfl Try.underlying46 Try.underlying2 rfl) ?_
            refine rl_v rfl rfl rfl (ov_assign rfl rfl) ?_
            refine rl_nil ?_
            refine Run.use (hk20 _ _ ?_) (And.intro (by first | with_reducible rfl | exact slot_int rfl (by first | omega) | rfl) (And.intro rfl (And.intro rfl (And.intro rfl (And.intro rfl trivial)))))
            exact ⟨by have := mod100 (c0 k); omega, by have := mod100 (c0 k); omega, hO⟩
          · refine run_skip ?_
            refine Run.use (hk20 _ _ ?_) (And.intro (by first | with_reducible rfl | exact slot_int rfl (by first | omega) | rfl) (And.intro rfl (And.intro rfl (And.intro rfl (And.intro rfl trivial)))))
            exact ⟨by omega, by omega, hO⟩
      · refine run_skip ?_
        refine Run.use (hk20 _ _ ?_) (And.intro (by first | with_reducible rfl | exact slot_int rfl (by first | omega) | rfl) (And.intro rfl (And.intro rfl (And.intro rfl (And.intro rfl trivial)))))
        exact ⟨by omega, by omega, hO⟩
    · intro x w19 hJw19
      obtain ⟨hx0, hx1, hO3⟩ := hJw19
      show Run _ _ _ _ [(7, _), (2, _), (4, _), (5, _), (6, _)] _ _
      refine run_region ?_
      refine rl_v rfl rfl rfl (ov_fieldS rfl Try.underlying35 rfl (fo := 1) rfl (by kernel_rfl) rfl) ?_
      refine rl_v rfl rfl rfl (ov_load rfl Try.underlying23 rfl rfl (by first | exact hq _ hO3.below _ (by omega) (by omega) | exact hO3.cellI 0 rfl _ (by omega) (by omega) | exact hO3.cellL 0 rfl rfl | exact hO3.cellI 1 rfl _ (by omega) (by omega) | exact hO3.cellL 1 rfl rfl | exact hO3.cellI 2 rfl _ (by omega) (by omega) | exact hO3.cellL 2 rfl rfl | exact hO3.cellI 3 rfl _ (by omega) (by omega) | exact hO3.cellL 3 rfl rfl | exact hO3.cellI 4 rfl _ (by omega) (by omega) | exact hO3.cellL 4 rfl rfl | exact hO3.cellI 5 rfl _ (by omega) (by omega) | exact hO3.cellL 5 rfl rfl)) ?_
      refine rl_v rfl rfl rfl (ov_move rfl rfl) ?_
      refine rl_appI rfl rfl rfl rfl rfl rfl rfl rfl Try.underlying23 info_2 rfl hO3 0 hr rfl rfl rfl ⟨by omega, by omega⟩ (fun v5 c5 w23 hO24 hr5 hs25 => ?_)
      obtain ⟨a5, p5, rfl⟩ := hr5.val
      refine rl_v rfl rfl rfl (ov_fieldS rfl Try.underlying35 rfl (fo := 1) rfl (by kernel_rfl) rfl) ?_
      refine rl_ow rfl (ow_storeL rfl rfl (by kernel_rfl) hO24 1 rfl rfl rfl rfl rfl) ?_
      rintro _ w26 ⟨rfl, hO27, hs28⟩
      refine rl_nil ?_
      refine run_inBlock ?_
      refine run_region ?_
      refine rl_v rfl rfl rfl (ov_move rfl rfl) ?_
      refine rl_v rfl rfl rfl (ov_add rfl rfl rfl (by omega)) ?_
      refine rl_v rfl rfl rfl (ov_assign rfl rfl) ?_
      refine rl_nil ?_
      refine Run.use (ih18 (k + 1) (m + 1) (.slice a5 (m + 1) p5) (upd g m x) (c5) _ ?_ ?_) (And.intro (by first | with_reducible rfl | exact slot_int rfl (by first | omega) | rfl) (And.intro rfl (And.intro rfl (And.intro rfl trivial))))
      · first | omega | (dsimp only; omega)
      · exact ⟨by omega, by omega, hr5, fun i => by unfold upd; split; omega; exact hg i, hO27⟩
  · obtain rfl : m = n := by omega
    obtain ⟨a5, p5, rfl⟩ := hr.val
    refine run_exit rfl ?_
    refine run_seq ?_
    refine run_region ?_
    refine rl_v rfl rfl rfl (ov_loadW rfl Try.underlying35 rfl (by kernel_rfl) rfl hO 1 rfl) ?_
    refine rl_ow rfl (ow_storeW rfl rfl (by kernel_rfl) hO 2 rfl rfl (by rfl) rfl (by rfl)) ?_
    rintro _ w29 ⟨rfl, hO30, hs31⟩
    refine rl_nil ?_
    refine run_ret Try.func19 (resW Try.results19 rfl Try.underlying35 rfl (by kernel_rfl) hO30 2 rfl) ?_
    exact ⟨to, a5, tc, p5, m, D, g, H, cc, rfl, hT, hr, hO30.sub (.cons_cons _ (.cons _ (.cons _ (.cons _ (.refl _))))), ⟨hn1, by omega, fun r c => (hD r c).1, fun r c => by have := (hD r c).2; omega, hdia⟩, by omega, fun r c => (hD r c).2, hg⟩
end Go.Proofs.Ytiambddcpflkhaa
