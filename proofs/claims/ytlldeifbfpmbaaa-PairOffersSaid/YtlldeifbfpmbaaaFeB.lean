import Derived.Test.YtlldeifbfpmbaaaFeA
set_option maxRecDepth 100000
namespace Go.Proofs.Ytlldeifbfpmbaaa
open Go.RowKit Go.Proofs Go.MapKept
set_option maxHeartbeats 4000000 in
theorem refGrowers_any (ga ba qa : Option Addr) (gc bc qc : Nat) (f : Fair) (w : World) (hV : Valid5 f f.m) (hF : FAg w.heap.size w ga ba qa f f.m) :
  Calls Try.prog 15 #[.agg #[.slice ga f.n gc, .slice ba f.m bc, .slice qa f.m qc]] w fun e w' => ∃ (lb : Nat) (l : Int → Int), e = .returned (.slice (some ⟨lb, 0, none⟩) f.n f.n) ∧ Own w.heap.size w w' [some (vch lb 3 f.n (fun g => iv (l g)))] ∧ f.Best l := by
 have hf := hV.ok
 have hs := hV.sm
 have hlg := hV.lg
 have hn := hs.n
 have hm := hs.m
 obtain ⟨A, C, RB, RO, gb, go, hga, hrow, hra, hel, hcan⟩ := hF.g.open
 obtain ⟨A', C', RB', RO', gb', go', hga', hrow', hra', hel', hcan'⟩ := hF.b.open
 obtain ⟨qb, qo, hqa, hqrow⟩ := hF.q.open
 refine calls_of_run (F := [(0, _)]) Try.func15 rfl Try.ntmps15 rfl rfl ?_
 have hO0 := Own.init w
 refine run_seq <| run_region <| rl_ow rfl (ow_box _ rfl rfl rfl rfl rfl hO0) ?_
 rintro _ w1 ⟨b1, rfl, hO2, hs3⟩
 refine rl_v rfl rfl rfl (ov_assign rfl rfl) <| rl_nil <| run_seq <| run_region <| rl_v rfl rfl rfl (ov_fieldS rfl Try.underlying25 rfl (fo := 0) rfl (by kernel_rfl) rfl) ?_
 refine rl_v rfl rfl rfl (ov_load rfl Try.underlying22 rfl rfl (by exact hO2.cellL 0 rfl (off := 0) rfl)) ?_
 refine rl_v rfl rfl rfl (ov_len rfl Try.underlying22 rfl) <| rl_v rfl rfl rfl (ov_assign rfl rfl) <| rl_nil <| run_seq <| Run.keep [1, 3] (F' := [(1, _), (3, _)]) rfl <| run_join2 (fun (lb : Nat) (xb : Nat) => [(4, .slice (some ⟨lb, 0, none⟩) f.n f.n), (5, .slice (some ⟨xb, 0, none⟩) f.n f.n)]) [1, 3] (fun (lb : Nat) (xb : Nat) (w4 : World) => Own w.heap.size w w4 [some (vch xb 3 f.n (fun _ => iv 0)), some (vch lb 3 f.n (fun _ => iv 0)), some (lch b1 25 [.slice ga f.n gc, .slice ba f.m bc, .slice qa f.m qc])]) (fun hk5 => ?_) ?_
 ·refine run_held (fun w' => Own w.heap.size w w' ([])) mixed ?_
  have hO7 := hO2.drew
  generalize World.drew w1 = w6 at hO7 ⊢
  have hS8 : Own w.heap.size w w6 ([]) := by exact hO7.none_
  refine rh_v 0 rfl (by kernel_rfl) rfl rfl rfl hS8 (fun _ hS => ov_move rfl rfl) ?_
  refine rh_v 2 rfl (by kernel_rfl) rfl rfl rfl hS8 (fun _ hS => ov_move rfl rfl) ?_
  refine rh_any2 1 3 (by kernel_rfl) ?_ ?_
  ·refine rc_op rfl rfl (ow_make (f.n) rfl rfl rfl Try.underlying23 info_3 rfl hO7 rfl rfl (by rfl) (by rfl) ⟨by omega, by omega⟩) ?_
   rintro _ w9 ⟨lb, rfl, hO10, hs11⟩
   have hS12 : Own w.heap.size w w9 ([]) := by exact hO10.none_
   refine ⟨hS12, ?_⟩
   refine rh_v 4 rfl (by kernel_rfl) rfl rfl rfl hS12 (fun _ hS => ov_assign rfl rfl) ?_
   refine rh_any1 3 (by kernel_rfl) ?_
   refine rc_op rfl rfl (ow_make (f.n) rfl rfl rfl Try.underlying23 info_3 rfl hO10 rfl rfl (by rfl) (by rfl) ⟨by omega, by omega⟩) ?_
   rintro _ w13 ⟨xb, rfl, hO14, hs15⟩
   have hS16 : Own w.heap.size w w13 ([]) := by exact hO14.none_
   refine ⟨hS16, ?_⟩
   refine rh_v 5 rfl (by kernel_rfl) rfl rfl rfl hS16 (fun _ hS => ov_assign rfl rfl) ?_
   refine rh_done (by kernel_rfl) ?_
   refine Run.use (hk5 (lb) (xb) _ ?_) (And.intro rfl (And.intro rfl (And.intro rfl (And.intro rfl trivial))))
   exact hO14
  ·refine rc_op rfl rfl (ow_make (f.n) rfl rfl rfl Try.underlying23 info_3 rfl hO7 rfl rfl (by rfl) (by rfl) ⟨by omega, by omega⟩) ?_
   rintro _ w17 ⟨xb, rfl, hO18, hs19⟩
   have hS20 : Own w.heap.size w w17 ([]) := by exact hO18.none_
   refine ⟨hS20, ?_⟩
   refine rh_any1 1 (by kernel_rfl) ?_
   refine rc_op rfl rfl (ow_make (f.n) rfl rfl rfl Try.underlying23 info_3 rfl hO18 rfl rfl (by rfl) (by rfl) ⟨by omega, by omega⟩) ?_
   rintro _ w21 ⟨lb, rfl, hO22, hs23⟩
   have hS24 : Own w.heap.size w w21 ([]) := by exact hO22.none_
   refine ⟨hS24, ?_⟩
   refine rh_v 4 rfl (by kernel_rfl) rfl rfl rfl hS24 (fun _ hS => ov_assign rfl rfl) ?_
   refine rh_v 5 rfl (by kernel_rfl) rfl rfl rfl hS24 (fun _ hS => ov_assign rfl rfl) ?_
   refine rh_done (by kernel_rfl) ?_
   refine Run.use (hk5 (lb) (xb) _ ?_) (And.intro rfl (And.intro rfl (And.intro rfl (And.intro rfl trivial))))
   exact hO22.swap
 ·intro lb xb w4 hJw4
  have hO := hJw4
  show Run _ _ _ _ [(4, _), (5, _), (1, _), (3, _)] _ _
  refine run_seq <| run_seq <| run_region <| rl_v rfl rfl rfl (ov_assign rfl rfl) <| rl_nil <| run_block <| Run.keep [1, 3, 4, 5, 6] (F' := [(1, _), (3, _), (4, _), (5, _), (6, _)]) rfl <| run_loop2 (fun (k : Int) (z : Int → Int) => [(6, .int .i64 k)]) [1, 3, 4, 5] (fun (k : Int) (z : Int → Int) (w25 : World) => 0 ≤ k ∧ k ≤ f.n ∧ (∀ i : Int, 0 ≤ i → i < k → z i = -1) ∧ Own w.heap.size w w25 [some (vch xb 3 f.n (fun _ => iv 0)), some (vch lb 3 f.n (fun i => iv (z i))), some (lch b1 25 [.slice ga f.n gc, .slice ba f.m bc, .slice qa f.m qc])]) (fun (k : Int) (z : Int → Int) => ((f.n : Int) - k).toNat) (0) (fun _ => 0) ?_ (And.intro (by exact slot_int rfl (by first | omega)) (And.intro rfl (And.intro rfl (And.intro rfl (And.intro rfl trivial))))) ?_
  ·exact ⟨by omega, by omega, fun i i0 i1 => by omega, hO⟩
  intro k z w25 hIw25 ih26
  obtain ⟨hk0, hk1, hz, hO⟩ := hIw25
  show Run _ _ _ _ [(6, _), (1, _), (3, _), (4, _), (5, _)] _ _
  refine run_seq <| run_seq <| run_region <| rl_v rfl rfl rfl (ov_move rfl rfl) <| rl_v rfl rfl rfl (ov_move rfl rfl) <| rl_v rfl rfl rfl (ov_lss rfl rfl rfl) <| rl_nil ?_
  first | refine run_cond_dec rfl (fun h1 => ?_) (fun h1 => ?_) | refine run_cond rfl (fun h1 => ?_) (fun h1 => ?_)
  ·refine run_skip <| run_seq <| run_block <| run_region <| rl_v rfl rfl rfl (ov_move rfl rfl) <| rl_v rfl rfl rfl (ov_move rfl rfl) <| rl_v rfl rfl rfl (ov_index1 rfl Try.underlying23 (by kernel_rfl) rfl rfl ⟨by omega, by omega⟩ (by rfl)) ?_
   refine rl_ow rfl (ow_storeI rfl rfl (by kernel_rfl) hO 1 rfl rfl ⟨by omega, by omega⟩ rfl) ?_
   rintro _ w27 ⟨rfl, hO28, hs29⟩
   refine rl_nil <| run_inBlock <| run_region <| rl_v rfl rfl rfl (ov_move rfl rfl) <| rl_v rfl rfl rfl (ov_add rfl rfl rfl (by omega)) ?_
   refine rl_v rfl rfl rfl (ov_assign rfl rfl) <| rl_nil ?_
   refine Run.use (ih26 (k + 1) (upd z k (-1)) _ ?_ ?_) (And.intro (by exact slot_int rfl (by first | omega)) (And.intro rfl (And.intro rfl (And.intro rfl (And.intro rfl trivial)))))
   ·first | omega | (dsimp only; omega)
   ·exact ⟨by omega, by omega, fun i i0 i1 => by unfold upd; by_cases e : i = k; (rw [if_pos e]); (rw [if_neg e]; exact hz i i0 (by omega)), hO28⟩
  ·refine run_exit rfl <| run_seq <| run_seq <| run_region <| rl_v rfl rfl rfl (ov_assign rfl rfl) <| rl_nil <| run_block <| Run.keep [1, 3, 4, 5, 7] (F' := [(1, _), (3, _), (4, _), (5, _), (7, _)]) rfl <| run_loop3 (fun (ch : Bool) (l : Int → Int) (nx : Int → Int) => [(7, .bool ch)]) [1, 3, 4, 5] (fun (ch : Bool) (l : Int → Int) (nx : Int → Int) (w30 : World) => f.DA l nx ∧ (ch = false → ∀ g : Int, 0 ≤ g → g < f.n → l g = -1 → nx g = f.gl g) ∧ Own w.heap.size w w30 [some (vch xb 3 f.n (fun i => iv (nx i))), some (vch lb 3 f.n (fun i => iv (l i))), some (lch b1 25 [.slice ga f.n gc, .slice ba f.m bc, .slice qa f.m qc])]) (fun (ch : Bool) (l : Int → Int) (nx : Int → Int) => 2 * left f nx + (if ch then 1 else 0)) (true) (fun _ => -1) (fun _ => 0) ?_ (And.intro (by rfl) (And.intro rfl (And.intro rfl (And.intro rfl (And.intro rfl trivial))))) ?_
   ·exact ⟨Fair.DA.init f hf.q0, (fun e => Bool.noConfusion e), hO.congrI 1 rfl (G' := fun _ => iv (-1)) fun i i0 i1 => congrArg iv (hz i i0 (by omega))⟩
   intro ch l nx w30 hIw30 ih31
   obtain ⟨hD, hend, hO⟩ := hIw30
   show Run _ _ _ _ [(7, _), (1, _), (3, _), (4, _), (5, _)] _ _
   refine run_seq <| run_seq <| run_region <| rl_v rfl rfl rfl (ov_move rfl rfl) <| rl_nil ?_
   first | refine run_cond_dec rfl (fun h2 => ?_) (fun h2 => ?_) | refine run_cond rfl (fun h2 => ?_) (fun h2 => ?_)
   ·subst h2
    obtain ⟨l0, hl0⟩ : ∃ x, x = left f nx := ⟨_, rfl⟩
    refine run_skip <| run_block <| run_seq <| run_region <| rl_v rfl rfl rfl (ov_assign rfl rfl) <| rl_nil <| run_seq <| run_region <| rl_v rfl rfl rfl (ov_assign rfl rfl) <| rl_nil <| run_block <| Run.keep [1, 3, 4, 5, 7, 8] (F' := [(1, _), (3, _), (4, _), (5, _), (7, _), (8, _)]) rfl <| run_loop4 (fun (g : Int) (ch : Bool) (l : Int → Int) (nx : Int → Int) => [(8, .int .i64 g), (7, .bool ch)]) [1, 3, 4, 5] (fun (g : Int) (ch : Bool) (l : Int → Int) (nx : Int → Int) (w32 : World) => 0 ≤ g ∧ g ≤ f.n ∧ f.DA l nx ∧ left f nx ≤ l0 ∧ (ch = true → left f nx < l0) ∧ (ch = false → ∀ i : Int, 0 ≤ i → i < g → l i = -1 → nx i = f.gl i) ∧ Own w.heap.size w w32 [some (vch xb 3 f.n (fun i => iv (nx i))), some (vch lb 3 f.n (fun i => iv (l i))), some (lch b1 25 [.slice ga f.n gc, .slice ba f.m bc, .slice qa f.m qc])]) (fun (g : Int) (ch : Bool) (l : Int → Int) (nx : Int → Int) => ((f.n : Int) - g).toNat) (0) (false) (l) (nx) ?_ (And.intro (by exact slot_int rfl (by first | omega)) (And.intro (by rfl) (And.intro rfl (And.intro rfl (And.intro rfl (And.intro rfl trivial)))))) ?_
    ·exact ⟨by omega, by omega, hD, by omega, (fun e => Bool.noConfusion e), fun _ i i0 i1 => by omega, hO⟩
    intro g ch l nx w32 hIw32 ih33
    obtain ⟨hg0, hg1, hD, hle, hlt, hend, hO⟩ := hIw32
    show Run _ _ _ _ [(8, _), (7, _), (1, _), (3, _), (4, _), (5, _)] _ _
    refine run_seq <| run_seq <| run_region <| rl_v rfl rfl rfl (ov_move rfl rfl) <| rl_v rfl rfl rfl (ov_move rfl rfl) <| rl_v rfl rfl rfl (ov_lss rfl rfl rfl) <| rl_nil ?_
    first | refine run_cond_dec rfl (fun h3 => ?_) (fun h3 => ?_) | refine run_cond rfl (fun h3 => ?_) (fun h3 => ?_)
    ·have hnx := hD.nxr g hg0 h3
     have hgl := hs.gl g hg0 h3
     refine run_skip <| run_seq <| run_block <| run_seq <| run_seq <| run_quiet mixed (by kernel_rfl) ?_
     refine rq_v rfl rfl rfl (fun _ => ov_move rfl rfl) ?_
     refine rq_v rfl rfl rfl (fun _ => ov_move rfl rfl) ?_
     refine rq_v rfl rfl rfl (fun _ => ov_index1 rfl Try.underlying23 (by kernel_rfl) rfl rfl ⟨by omega, by omega⟩ (by rfl)) ?_
     refine rq_v rfl rfl rfl (fun _ => ov_load rfl Try.underlying3 rfl rfl (by show World.cell? w32 _ = _; first | exact hrow _ hO.below _ (by omega) (by omega) | exact hrow' _ hO.below _ (by omega) (by omega) | exact hqrow _ hO.below _ (by omega) (by omega) | exact hO.cellI 0 rfl _ (by omega) (by omega) | exact hO.cellL 0 rfl rfl | exact hO.cellI 1 rfl _ (by omega) (by omega) | exact hO.cellL 1 rfl rfl | exact hO.cellI 2 rfl _ (by omega) (by omega) | exact hO.cellL 2 rfl rfl | exact hO.cellI 3 rfl _ (by omega) (by omega) | exact hO.cellL 3 rfl rfl | exact hO.cellI 4 rfl _ (by omega) (by omega) | exact hO.cellL 4 rfl rfl | exact hO.cellI 5 rfl _ (by omega) (by omega) | exact hO.cellL 5 rfl rfl)) ?_
     refine rq_v rfl rfl rfl (fun _ => ov_geq rfl rfl rfl) ?_
     refine rq_v rfl rfl rfl (fun _ => ov_move rfl rfl) ?_
     first | refine rq_split_dec 38 rfl (fun q1 => ?_) (fun q1 => ?_) | refine rq_split 38 rfl (fun q1 => ?_) (fun q1 => ?_)
     ·refine rq_gskip rfl rfl rfl rfl rfl rfl <| rq_gskip rfl rfl rfl rfl rfl rfl <| rq_gskip rfl rfl rfl rfl rfl rfl <| rq_gskip rfl rfl rfl rfl rfl rfl <| rq_gskip rfl rfl rfl rfl rfl rfl <| rq_gskip rfl rfl rfl rfl rfl rfl <| rq_gskip rfl rfl rfl rfl rfl rfl <| rq_gskip rfl rfl rfl rfl rfl rfl <| rq_gskip rfl rfl rfl rfl rfl rfl <| rq_gskip rfl rfl rfl rfl rfl rfl <| rq_gskip rfl rfl rfl rfl rfl rfl <| rq_v rfl rfl rfl (fun _ => ov_pick_t rfl rfl rfl) ?_
      refine rq_nil (fun n35 => ?_)
      have hO37 := hO.drewN n35
      generalize World.drewN w32 n35 = w36 at hO37 ⊢
      refine run_cond_t rfl <| run_exit rfl <| run_region <| rl_v rfl rfl rfl (ov_move rfl rfl) <| rl_v rfl rfl rfl (ov_add rfl rfl rfl (by omega)) ?_
      refine rl_v rfl rfl rfl (ov_assign rfl rfl) <| rl_nil ?_
      refine Run.use (ih33 (g + 1) (ch) (l) (nx) _ ?_ ?_) (And.intro (by exact slot_int rfl (by first | omega)) (And.intro (by rfl) (And.intro rfl (And.intro rfl (And.intro rfl (And.intro rfl trivial))))))
      ·first | omega | (dsimp only; omega)
      ·exact ⟨by omega, by omega, hD, hle, hlt, fun e i i0 i1 hi => by by_cases c : i = g; (rw [c] at hi; omega); (exact hend e i i0 (by omega) hi), hO37⟩
     ·refine rq_gv rfl rfl rfl rfl rfl (fun _ => ov_move rfl rfl) ?_
      refine rq_gv rfl rfl rfl rfl rfl (fun _ => ov_move rfl rfl) ?_
      refine rq_gv rfl rfl rfl rfl rfl (fun _ => ov_index1 rfl Try.underlying23 (by kernel_rfl) rfl rfl ⟨by omega, by omega⟩ (by rfl)) ?_
      refine rq_gv rfl rfl rfl rfl rfl (fun _ => ov_load rfl Try.underlying3 rfl rfl (by show World.cell? w32 _ = _; first | exact hrow _ hO.below _ (by omega) (by omega) | exact hrow' _ hO.below _ (by omega) (by omega) | exact hqrow _ hO.below _ (by omega) (by omega) | exact hO.cellI 0 rfl _ (by omega) (by omega) | exact hO.cellL 0 rfl rfl | exact hO.cellI 1 rfl _ (by omega) (by omega) | exact hO.cellL 1 rfl rfl | exact hO.cellI 2 rfl _ (by omega) (by omega) | exact hO.cellL 2 rfl rfl | exact hO.cellI 3 rfl _ (by omega) (by omega) | exact hO.cellL 3 rfl rfl | exact hO.cellI 4 rfl _ (by omega) (by omega) | exact hO.cellL 4 rfl rfl | exact hO.cellI 5 rfl _ (by omega) (by omega) | exact hO.cellL 5 rfl rfl)) ?_
      refine rq_gv rfl rfl rfl rfl rfl (fun _ => ov_fieldS rfl Try.underlying25 rfl (fo := 0) rfl (by kernel_rfl) rfl) ?_
      refine rq_gv rfl rfl rfl rfl rfl (fun _ => ov_load rfl Try.underlying22 rfl rfl (by show World.cell? w32 _ = _; first | exact hO.cellL 2 rfl (off := 0) rfl)) ?_
      refine rq_gv rfl rfl rfl rfl rfl (fun _ => ov_move rfl rfl) ?_
      refine rq_gv rfl rfl rfl rfl rfl (fun _ => ov_index1 rfl Try.underlying22 (by kernel_rfl) rfl rfl ⟨by omega, by omega⟩ (by exact hga (by omega))) ?_
      refine rq_gv rfl rfl rfl rfl rfl (fun _ => ov_load rfl Try.underlying23 rfl rfl (by show World.cell? w32 _ = _; first | exact hrow _ hO.below _ (by omega) (by omega) | exact hrow' _ hO.below _ (by omega) (by omega) | exact hqrow _ hO.below _ (by omega) (by omega) | exact hO.cellI 0 rfl _ (by omega) (by omega) | exact hO.cellL 0 rfl rfl | exact hO.cellI 1 rfl _ (by omega) (by omega) | exact hO.cellL 1 rfl rfl | exact hO.cellI 2 rfl _ (by omega) (by omega) | exact hO.cellL 2 rfl rfl | exact hO.cellI 3 rfl _ (by omega) (by omega) | exact hO.cellL 3 rfl rfl | exact hO.cellI 4 rfl _ (by omega) (by omega) | exact hO.cellL 4 rfl rfl | exact hO.cellI 5 rfl _ (by omega) (by omega) | exact hO.cellL 5 rfl rfl)) ?_
      refine rq_gv rfl rfl rfl rfl rfl (fun _ => ov_len rfl Try.underlying23 rfl) ?_
      refine rq_gv rfl rfl rfl rfl rfl (fun _ => ov_geq rfl rfl rfl) ?_
      refine rq_v rfl rfl rfl (fun _ => ov_pick_f rfl rfl rfl) ?_
      refine rq_nil (fun n38 => ?_)
      have hO40 := hO.drewN n38
      generalize World.drewN w32 n38 = w39 at hO40 ⊢
      first | refine run_cond_dec rfl (fun h4 => ?_) (fun h4 => ?_) | refine run_cond rfl (fun h4 => ?_) (fun h4 => ?_)
      ·refine run_exit rfl <| run_region <| rl_v rfl rfl rfl (ov_move rfl rfl) <| rl_v rfl rfl rfl (ov_add rfl rfl rfl (by omega)) ?_
       refine rl_v rfl rfl rfl (ov_assign rfl rfl) <| rl_nil ?_
       refine Run.use (ih33 (g + 1) (ch) (l) (nx) _ ?_ ?_) (And.intro (by exact slot_int rfl (by first | omega)) (And.intro (by rfl) (And.intro rfl (And.intro rfl (And.intro rfl (And.intro rfl trivial))))))
       ·first | omega | (dsimp only; omega)
       ·exact ⟨by omega, by omega, hD, hle, hlt, fun e i i0 i1 hi => by by_cases c : i = g; (rw [c]; omega); (exact hend e i i0 (by omega) hi), hO40⟩
      ·have hlg1 : l g = -1 := Classical.byContradiction fun e => by
        have h9 := hD.at_ g hg0 h3 e
        have h10 := hf.gr g (nx g - 1) hg0 h3 (by omega) (by omega)
        rw [← h9.2.1] at h10
        omega
       have hn1 : nx g < f.gl g := by omega
       have hleft := left_upd hD hg0 h3 hn1
       obtain ⟨b, hb⟩ : ∃ b, b = f.ge g (nx g) := ⟨_, rfl⟩
       have hbr := hf.gr g (nx g) hg0 h3 hnx.1 hn1
       rw [← hb] at hbr
       have hcn0 := Fair.cnt_nonneg f l b
       have hcn1 := cnt_le f l b
       have hcq := hD.cnt b hbr.1 hbr.2
       refine run_skip <| run_seq <| run_region <| rl_v rfl rfl rfl (ov_assign rfl rfl) <| rl_nil <| run_seq <| run_quiet mixed (by kernel_rfl) ?_
       refine rq_v rfl rfl rfl (fun _ => ov_fieldS rfl Try.underlying25 rfl (fo := 0) rfl (by kernel_rfl) rfl) ?_
       refine rq_v rfl rfl rfl (fun _ => ov_load rfl Try.underlying22 rfl rfl (by show World.cell? w39 _ = _; first | exact hO40.cellL 2 rfl (off := 0) rfl)) ?_
       refine rq_v rfl rfl rfl (fun _ => ov_move rfl rfl) ?_
       refine rq_v rfl rfl rfl (fun _ => ov_index1 rfl Try.underlying22 (by kernel_rfl) rfl rfl ⟨by omega, by omega⟩ (by exact hga (by omega))) ?_
       refine rq_v rfl rfl rfl (fun _ => ov_load rfl Try.underlying23 rfl rfl (by show World.cell? w39 _ = _; first | exact hrow _ hO40.below _ (by omega) (by omega) | exact hrow' _ hO40.below _ (by omega) (by omega) | exact hqrow _ hO40.below _ (by omega) (by omega) | exact hO40.cellI 0 rfl _ (by omega) (by omega) | exact hO40.cellL 0 rfl rfl | exact hO40.cellI 1 rfl _ (by omega) (by omega) | exact hO40.cellL 1 rfl rfl | exact hO40.cellI 2 rfl _ (by omega) (by omega) | exact hO40.cellL 2 rfl rfl | exact hO40.cellI 3 rfl _ (by omega) (by omega) | exact hO40.cellL 3 rfl rfl | exact hO40.cellI 4 rfl _ (by omega) (by omega) | exact hO40.cellL 4 rfl rfl | exact hO40.cellI 5 rfl _ (by omega) (by omega) | exact hO40.cellL 5 rfl rfl)) ?_
       refine rq_v rfl rfl rfl (fun _ => ov_move rfl rfl) ?_
       refine rq_v rfl rfl rfl (fun _ => ov_move rfl rfl) ?_
       refine rq_v rfl rfl rfl (fun _ => ov_index1 rfl Try.underlying23 (by kernel_rfl) rfl rfl ⟨by omega, by omega⟩ (by rfl)) ?_
       refine rq_v rfl rfl rfl (fun _ => ov_load rfl Try.underlying3 rfl rfl (by show World.cell? w39 _ = _; first | exact hrow _ hO40.below _ (by omega) (by omega) | exact hrow' _ hO40.below _ (by omega) (by omega) | exact hqrow _ hO40.below _ (by omega) (by omega) | exact hO40.cellI 0 rfl _ (by omega) (by omega) | exact hO40.cellL 0 rfl rfl | exact hO40.cellI 1 rfl _ (by omega) (by omega) | exact hO40.cellL 1 rfl rfl | exact hO40.cellI 2 rfl _ (by omega) (by omega) | exact hO40.cellL 2 rfl rfl | exact hO40.cellI 3 rfl _ (by omega) (by omega) | exact hO40.cellL 3 rfl rfl | exact hO40.cellI 4 rfl _ (by omega) (by omega) | exact hO40.cellL 4 rfl rfl | exact hO40.cellI 5 rfl _ (by omega) (by omega) | exact hO40.cellL 5 rfl rfl)) ?_
       refine rq_v rfl rfl rfl (fun _ => ov_index1 rfl Try.underlying23 (by kernel_rfl) rfl rfl ⟨by omega, by omega⟩ (by exact hra g hg0 h3 (by omega))) ?_
       refine rq_v rfl rfl rfl (fun _ => ov_load rfl Try.underlying3 rfl rfl (by show World.cell? w39 _ = _; first | exact (hel _ hO40.below g hg0 h3 (nx g) hnx.1 hn1).trans (congrArg some (congrArg iv hb.symm)))) ?_
       refine rq_v rfl rfl rfl (fun _ => ov_assign rfl rfl) ?_
       refine rq_nil (fun n41 => ?_)
       have hO43 := hO40.drewN n41
       generalize World.drewN w39 n41 = w42 at hO43 ⊢
       refine run_seq <| run_region <| rl_v rfl rfl rfl (ov_move rfl rfl) <| rl_v rfl rfl rfl (ov_move rfl rfl) <| rl_v rfl rfl rfl (ov_index1 rfl Try.underlying23 (by kernel_rfl) rfl rfl ⟨by omega, by omega⟩ (by rfl)) ?_
       refine rl_v rfl rfl rfl (ov_load rfl Try.underlying3 rfl rfl (by exact hO43.cellI 0 rfl _ (by omega) (by omega))) ?_
       refine rl_v rfl rfl rfl (ov_add rfl rfl rfl (by omega)) ?_
       refine rl_v rfl rfl rfl (ov_index1 rfl Try.underlying23 (by kernel_rfl) rfl rfl ⟨by omega, by omega⟩ (by rfl)) ?_
       refine rl_ow rfl (ow_storeI rfl rfl (by kernel_rfl) hO43 0 rfl rfl ⟨by omega, by omega⟩ rfl) ?_
       rintro _ w44 ⟨rfl, hO45, hs46⟩
       refine rl_nil <| run_seq <| run_seq <| run_region <| rl_v rfl rfl rfl (ov_loadW rfl Try.underlying25 rfl (by kernel_rfl) rfl hO45 2 rfl) ?_
       refine rl_v rfl rfl rfl (ov_move rfl rfl) <| rl_v rfl rfl rfl (ov_move rfl rfl) ?_
       refine rl_call callable_51 rfl rfl rfl rfl rfl rfl (mutual5_any ga ba qa gc bc qc f.m f g b _ hlg (hO45.fag hF) hg0 h3 hbr.1 hbr.2) (fun e47 w48 hp49 => ?_)
       obtain ⟨rfl, hbk⟩ := hp49
       refine ⟨_, rfl, ?_⟩
       have hO50 := hO45.past hbk
       refine rl_v rfl rfl rfl (ov_not rfl rfl) <| rl_v rfl rfl rfl (ov_move rfl rfl) ?_
       first | refine rl_split_dec 73 rfl (fun q2 => ?_) (fun q2 => ?_) | refine rl_split 73 rfl (fun q2 => ?_) (fun q2 => ?_)
       ·refine rl_gskip rfl rfl rfl rfl rfl rfl <| rl_gskip rfl rfl rfl rfl rfl rfl <| rl_gskip rfl rfl rfl rfl rfl rfl <| rl_gskip rfl rfl rfl rfl rfl rfl <| rl_gskip rfl rfl rfl rfl rfl rfl <| rl_gskip rfl rfl rfl rfl rfl rfl <| rl_v rfl rfl rfl (ov_pick_t rfl rfl rfl) <| rl_nil <| run_cond_t rfl ?_
        have hnk : ¬ f.know g b := by simpa using q2
        refine run_exit rfl <| run_region <| rl_v rfl rfl rfl (ov_move rfl rfl) <| rl_v rfl rfl rfl (ov_add rfl rfl rfl (by omega)) ?_
        refine rl_v rfl rfl rfl (ov_assign rfl rfl) <| rl_nil ?_
        refine Run.use (ih33 (g + 1) (true) (l) (upd nx g (nx g + 1)) _ ?_ ?_) (And.intro (by exact slot_int rfl (by first | omega)) (And.intro (by rfl) (And.intro rfl (And.intro rfl (And.intro rfl (And.intro rfl trivial))))))
        ·first | omega | (dsimp only; omega)
        ·exact ⟨by omega, by omega, hD.skip hf hg0 h3 hlg1 hn1 (.inl (by rw [← hb]; exact hnk)), by omega, fun _ => by omega, (fun e => Bool.noConfusion e), hO50⟩
       ·have hk : f.know g b := by simpa using q2
        refine rl_gv rfl rfl rfl rfl rfl (ov_fieldS rfl Try.underlying25 rfl (fo := 2) rfl (by kernel_rfl) rfl) ?_
        refine rl_gv rfl rfl rfl rfl rfl (ov_load rfl Try.underlying23 rfl rfl (by exact hO50.cellL 2 rfl (off := 2) rfl)) ?_
        refine rl_gv rfl rfl rfl rfl rfl (ov_move rfl rfl) <| rl_gv rfl rfl rfl rfl rfl (ov_index1 rfl Try.underlying23 (by kernel_rfl) rfl rfl ⟨by omega, by omega⟩ (by exact hqa (by omega))) ?_
        refine rl_gv rfl rfl rfl rfl rfl (ov_load rfl Try.underlying3 rfl rfl (by exact hqrow _ hO50.below _ (by omega) (by omega))) ?_
        refine rl_gv rfl rfl rfl rfl rfl (ov_eql rfl rfl rfl) <| rl_v rfl rfl rfl (ov_pick_f rfl rfl rfl) <| rl_nil ?_
        first | refine run_cond_dec rfl (fun h5 => ?_) (fun h5 => ?_) | refine run_cond rfl (fun h5 => ?_) (fun h5 => ?_)
        ·refine run_exit rfl <| run_region <| rl_v rfl rfl rfl (ov_move rfl rfl) <| rl_v rfl rfl rfl (ov_add rfl rfl rfl (by omega)) ?_
         refine rl_v rfl rfl rfl (ov_assign rfl rfl) <| rl_nil ?_
         refine Run.use (ih33 (g + 1) (true) (l) (upd nx g (nx g + 1)) _ ?_ ?_) (And.intro (by exact slot_int rfl (by first | omega)) (And.intro (by rfl) (And.intro rfl (And.intro rfl (And.intro rfl (And.intro rfl trivial))))))
         ·first | omega | (dsimp only; omega)
         ·exact ⟨by omega, by omega, hD.skip hf hg0 h3 hlg1 hn1 (.inr (by rw [← hb]; exact h5)), by omega, fun _ => by omega, (fun e => Bool.noConfusion e), hO50⟩
        ·refine run_skip <| run_seq <| run_region <| rl_v rfl rfl rfl (ov_move rfl rfl) <| rl_v rfl rfl rfl (ov_move rfl rfl) <| rl_v rfl rfl rfl (ov_move rfl rfl) <| rl_v rfl rfl rfl (ov_index1 rfl Try.underlying23 (by kernel_rfl) rfl rfl ⟨by omega, by omega⟩ (by rfl)) ?_
         refine rl_ow rfl (ow_storeI rfl rfl (by kernel_rfl) hO50 1 rfl rfl ⟨by omega, by omega⟩ rfl) ?_
         rintro _ w52 ⟨rfl, hO53, hs54⟩
         refine rl_nil <| run_seq <| run_seq <| run_class (Cl5 w.heap.size w [some (vch xb 3 f.n (fun i => iv (upd nx g (nx g + 1) i))), some (vch lb 3 f.n (fun i => iv (upd l g b i))), some (lch b1 25 [.slice ga f.n gc, .slice ba f.m bc, .slice qa f.m qc])]) (⟨hO53.drew⟩) mixed (by kernel_rfl) ?_
         refine rk_v rfl rfl rfl (fun wq hQ => ov_move rfl rfl) ?_
         refine rk_v rfl rfl rfl (fun wq hQ => ov_move rfl rfl) ?_
         refine rk_call callable_52 rfl rfl rfl rfl rfl rfl (fun wq hQ => (count5_any (some ⟨lb, 0, none⟩) f.n f.n (upd l g b) b _ (by omega) ((hQ.own).readsI 1 rfl)).mono fun _ _ h => ⟨h.1, ⟨(hQ.own).past h.2⟩⟩) ?_
         have hcu : f.cnt (upd l g b) b = f.cnt l b + 1 := by rw [Fair.cnt_upd hg0 h3, if_neg (by omega), if_pos rfl]; omega
         refine rk_v rfl rfl rfl (fun wq hQ => ov_fieldS rfl Try.underlying25 rfl (fo := 2) rfl (by kernel_rfl) rfl) ?_
         refine rk_v rfl rfl rfl (fun wq hQ => ov_load rfl Try.underlying23 rfl rfl (by exact (hQ.own).cellL 2 rfl (off := 2) rfl)) ?_
         refine rk_v rfl rfl rfl (fun wq hQ => ov_move rfl rfl) ?_
         refine rk_v rfl rfl rfl (fun wq hQ => ov_index1 rfl Try.underlying23 (by kernel_rfl) rfl rfl ⟨by omega, by omega⟩ (by exact hqa (by omega))) ?_
         refine rk_v rfl rfl rfl (fun wq hQ => ov_load rfl Try.underlying3 rfl rfl (by exact hqrow _ (hQ.own).below _ (by omega) (by omega))) ?_
         refine rk_v rfl rfl rfl (fun wq hQ => ov_leq rfl rfl rfl) ?_
         refine rk_nil (fun w58 hQ => ?_)
         first | refine run_cond_dec rfl (fun h6 => ?_) (fun h6 => ?_) | refine run_cond rfl (fun h6 => ?_) (fun h6 => ?_)
         ·have hc7 : f.cnt l b < f.q b := by have h7 : f.cnt (upd l g b) b ≤ f.q b := h6; omega
          refine run_exit rfl <| run_region <| rl_v rfl rfl rfl (ov_move rfl rfl) <| rl_v rfl rfl rfl (ov_add rfl rfl rfl (by omega)) ?_
          refine rl_v rfl rfl rfl (ov_assign rfl rfl) <| rl_nil ?_
          refine Run.use (ih33 (g + 1) (true) (upd l g b) (upd nx g (nx g + 1)) _ ?_ ?_) (And.intro (by exact slot_int rfl (by first | omega)) (And.intro (by rfl) (And.intro rfl (And.intro rfl (And.intro rfl (And.intro rfl trivial))))))
          ·first | omega | (dsimp only; omega)
          ·exact ⟨by omega, by omega, by rw [hb] at hk hc7 ⊢; exact hD.take hf hg0 h3 hlg1 hn1 hk hc7, by omega, fun _ => by omega, (fun e => Bool.noConfusion e), (hQ.own)⟩
         ·have hbl := hs.bl b hbr.1 hbr.2
          refine run_skip <| run_seq <| run_region <| rl_v rfl rfl rfl (ov_move rfl rfl) <| rl_v rfl rfl rfl (ov_assign rfl rfl) <| rl_nil <| run_seq <| run_seq <| run_region <| rl_v rfl rfl rfl (ov_assign rfl rfl) <| rl_nil <| run_block <| Run.keep [1, 3, 4, 5, 7, 8, 9, 10, 11] (F' := [(1, _), (3, _), (4, _), (5, _), (7, _), (8, _), (9, _), (10, _), (11, _)]) rfl <| run_loop2 (fun (i : Int) (wo : Int) => [(11, .int .i64 i), (10, .int .i64 wo)]) [1, 3, 4, 5, 7, 8, 9] (fun (i : Int) (wo : Int) (w59 : World) => 0 ≤ i ∧ i ≤ f.n ∧ (0 ≤ wo ∧ wo < f.n) ∧ upd l g b wo = b ∧ (∀ j : Int, 0 ≤ j → j < i → upd l g b j = b → f.rb b j ≤ f.rb b wo) ∧ Own w.heap.size w w59 [some (vch xb 3 f.n (fun i => iv (upd nx g (nx g + 1) i))), some (vch lb 3 f.n (fun i => iv (upd l g b i))), some (lch b1 25 [.slice ga f.n gc, .slice ba f.m bc, .slice qa f.m qc])]) (fun (i : Int) (wo : Int) => ((f.n : Int) - i).toNat) (0) (g) ?_ (And.intro (by exact slot_int rfl (by first | omega)) (And.intro (by exact slot_int rfl (by first | omega)) (And.intro rfl (And.intro rfl (And.intro rfl (And.intro rfl (And.intro rfl (And.intro rfl (And.intro rfl trivial))))))))) ?_
          ·exact ⟨by omega, by omega, ⟨hg0, h3⟩, upd_same _ _ _, fun j j0 j1 => by omega, (hQ.own)⟩
          intro i wo w59 hIw59 ih60
          obtain ⟨hi0, hi1, hwo, hwb, hall, hO⟩ := hIw59
          show Run _ _ _ _ [(11, _), (10, _), (1, _), (3, _), (4, _), (5, _), (7, _), (8, _), (9, _)] _ _
          refine run_seq <| run_seq <| run_region <| rl_v rfl rfl rfl (ov_move rfl rfl) <| rl_v rfl rfl rfl (ov_move rfl rfl) <| rl_v rfl rfl rfl (ov_lss rfl rfl rfl) <| rl_nil ?_
          first | refine run_cond_dec rfl (fun h7 => ?_) (fun h7 => ?_) | refine run_cond rfl (fun h7 => ?_) (fun h7 => ?_)
          ·refine run_skip <| run_seq <| run_block <| run_seq <| run_class (Cl5 w.heap.size w [some (vch xb 3 f.n (fun i => iv (upd nx g (nx g + 1) i))), some (vch lb 3 f.n (fun i => iv (upd l g b i))), some (lch b1 25 [.slice ga f.n gc, .slice ba f.m bc, .slice qa f.m qc])]) (⟨hO.drew⟩) mixed (by kernel_rfl) ?_
           refine rk_v rfl rfl rfl (fun wq hQ => ov_move rfl rfl) ?_
           refine rk_v rfl rfl rfl (fun wq hQ => ov_move rfl rfl) ?_
           refine rk_v rfl rfl rfl (fun wq hQ => ov_index1 rfl Try.underlying23 (by kernel_rfl) rfl rfl ⟨by omega, by omega⟩ (by rfl)) ?_
           refine rk_v rfl rfl rfl (fun wq hQ => ov_load rfl Try.underlying3 rfl rfl (by exact (hQ.own).cellI 1 rfl i hi0 h7)) ?_
           refine rk_v rfl rfl rfl (fun wq hQ => ov_move rfl rfl) ?_
           refine rk_v rfl rfl rfl (fun wq hQ => ov_eql rfl rfl rfl) ?_
           refine rk_v rfl rfl rfl (fun wq hQ => ov_move rfl rfl) ?_
           first | refine rk_split_dec 106 rfl (fun q3 => ?_) (fun q3 => ?_) | refine rk_split 106 rfl (fun q3 => ?_) (fun q3 => ?_)
           ·refine rk_gv rfl rfl rfl rfl rfl (fun wq hQ => ov_fieldS rfl Try.underlying25 rfl (fo := 1) rfl (by kernel_rfl) rfl) ?_
            refine rk_gv rfl rfl rfl rfl rfl (fun wq hQ => ov_load rfl Try.underlying22 rfl rfl (by exact (hQ.own).cellL 2 rfl (off := 1) rfl)) ?_
            refine rk_gv rfl rfl rfl rfl rfl (fun wq hQ => ov_move rfl rfl) ?_
            refine rk_gv rfl rfl rfl rfl rfl (fun wq hQ => ov_index1 rfl Try.underlying22 (by kernel_rfl) rfl rfl ⟨by omega, by omega⟩ (by exact hga' (by omega))) ?_
            refine rk_gv rfl rfl rfl rfl rfl (fun wq hQ => ov_load rfl Try.underlying23 rfl rfl (by exact hrow' _ (hQ.own).below _ (by omega) (by omega))) ?_
            refine rk_gv rfl rfl rfl rfl rfl (fun wq hQ => ov_move rfl rfl) ?_
            refine rk_gcall callable_19 rfl rfl rfl rfl rfl rfl rfl rfl (fun wq hQ => (rank5_any (A' b) (f.bl b) (C' b) (f.be b) i _ (by omega) ((hQ.own).iatF (hcan' b hbr.1 hbr.2))).mono fun _ _ h => ⟨h.1, ⟨(hQ.own).past h.2⟩⟩) ?_
            refine rk_gv rfl rfl rfl rfl rfl (fun wq hQ => ov_fieldS rfl Try.underlying25 rfl (fo := 1) rfl (by kernel_rfl) rfl) ?_
            refine rk_gv rfl rfl rfl rfl rfl (fun wq hQ => ov_load rfl Try.underlying22 rfl rfl (by exact (hQ.own).cellL 2 rfl (off := 1) rfl)) ?_
            refine rk_gv rfl rfl rfl rfl rfl (fun wq hQ => ov_move rfl rfl) ?_
            refine rk_gv rfl rfl rfl rfl rfl (fun wq hQ => ov_index1 rfl Try.underlying22 (by kernel_rfl) rfl rfl ⟨by omega, by omega⟩ (by exact hga' (by omega))) ?_
            refine rk_gv rfl rfl rfl rfl rfl (fun wq hQ => ov_load rfl Try.underlying23 rfl rfl (by exact hrow' _ (hQ.own).below _ (by omega) (by omega))) ?_
            refine rk_gv rfl rfl rfl rfl rfl (fun wq hQ => ov_move rfl rfl) ?_
            refine rk_gcall callable_19 rfl rfl rfl rfl rfl rfl rfl rfl (fun wq hQ => (rank5_any (A' b) (f.bl b) (C' b) (f.be b) wo _ (by omega) ((hQ.own).iatF (hcan' b hbr.1 hbr.2))).mono fun _ _ h => ⟨h.1, ⟨(hQ.own).past h.2⟩⟩) ?_
            refine rk_gv rfl rfl rfl rfl rfl (fun wq hQ => ov_gtr rfl rfl rfl) ?_
            refine rk_v rfl rfl rfl (fun wq hQ => ov_pick_t rfl rfl rfl) ?_
            refine rk_nil (fun w68 hQ => ?_)
            first | refine run_cond_dec rfl (fun h8 => ?_) (fun h8 => ?_) | refine run_cond rfl (fun h8 => ?_) (fun h8 => ?_)
            ·have h8' : f.rb b wo < f.rb b i := h8
             refine run_region <| rl_v rfl rfl rfl (ov_move rfl rfl) <| rl_v rfl rfl rfl (ov_assign rfl rfl) <| rl_nil <| run_inBlock <| run_region <| rl_v rfl rfl rfl (ov_move rfl rfl) <| rl_v rfl rfl rfl (ov_add rfl rfl rfl (by omega)) ?_
             refine rl_v rfl rfl rfl (ov_assign rfl rfl) <| rl_nil ?_
             refine Run.use (ih60 (i + 1) (i) _ ?_ ?_) (And.intro (by exact slot_int rfl (by first | omega)) (And.intro (by exact slot_int rfl (by first | omega)) (And.intro rfl (And.intro rfl (And.intro rfl (And.intro rfl (And.intro rfl (And.intro rfl (And.intro rfl trivial)))))))))
             ·first | omega | (dsimp only; omega)
             ·exact ⟨by omega, by omega, ⟨hi0, h7⟩, q3, fun j j0 j1 hj => by by_cases c : j = i; (rw [c]; exact Int.le_refl _); (have := hall j j0 (by omega) hj; omega), (hQ.own)⟩
            ·have h8' : ¬ f.rb b wo < f.rb b i := h8
             refine run_skip <| run_inBlock <| run_region <| rl_v rfl rfl rfl (ov_move rfl rfl) <| rl_v rfl rfl rfl (ov_add rfl rfl rfl (by omega)) ?_
             refine rl_v rfl rfl rfl (ov_assign rfl rfl) <| rl_nil ?_
             refine Run.use (ih60 (i + 1) (wo) _ ?_ ?_) (And.intro (by exact slot_int rfl (by first | omega)) (And.intro (by exact slot_int rfl (by first | omega)) (And.intro rfl (And.intro rfl (And.intro rfl (And.intro rfl (And.intro rfl (And.intro rfl (And.intro rfl trivial)))))))))
             ·first | omega | (dsimp only; omega)
             ·exact ⟨by omega, by omega, hwo, hwb, fun j j0 j1 hj => by by_cases c : j = i; (rw [c]; omega); (exact hall j j0 (by omega) hj), (hQ.own)⟩
           ·refine rk_gskip rfl rfl rfl rfl rfl rfl <| rk_gskip rfl rfl rfl rfl rfl rfl <| rk_gskip rfl rfl rfl rfl rfl rfl <| rk_gskip rfl rfl rfl rfl rfl rfl <| rk_gskip rfl rfl rfl rfl rfl rfl <| rk_gskip rfl rfl rfl rfl rfl rfl <| rk_gskip rfl rfl rfl rfl rfl rfl <| rk_gskip rfl rfl rfl rfl rfl rfl <| rk_gskip rfl rfl rfl rfl rfl rfl <| rk_gskip rfl rfl rfl rfl rfl rfl <| rk_gskip rfl rfl rfl rfl rfl rfl <| rk_gskip rfl rfl rfl rfl rfl rfl <| rk_gskip rfl rfl rfl rfl rfl rfl <| rk_gskip rfl rfl rfl rfl rfl rfl <| rk_gskip rfl rfl rfl rfl rfl rfl <| rk_v rfl rfl rfl (fun wq hQ => ov_pick_f rfl rfl rfl) ?_
            refine rk_nil (fun w69 hQ => ?_)
            refine run_cond_f rfl <| run_skip <| run_inBlock <| run_region <| rl_v rfl rfl rfl (ov_move rfl rfl) <| rl_v rfl rfl rfl (ov_add rfl rfl rfl (by omega)) ?_
            refine rl_v rfl rfl rfl (ov_assign rfl rfl) <| rl_nil ?_
            refine Run.use (ih60 (i + 1) (wo) _ ?_ ?_) (And.intro (by exact slot_int rfl (by first | omega)) (And.intro (by exact slot_int rfl (by first | omega)) (And.intro rfl (And.intro rfl (And.intro rfl (And.intro rfl (And.intro rfl (And.intro rfl (And.intro rfl trivial)))))))))
            ·first | omega | (dsimp only; omega)
            ·exact ⟨by omega, by omega, hwo, hwb, fun j j0 j1 hj => by by_cases c : j = i; (rw [c] at hj; exact absurd hj q3); (exact hall j j0 (by omega) hj), (hQ.own)⟩
          ·have hqc : f.q b ≤ f.cnt l b := by have h7 : ¬ f.cnt (upd l g b) b ≤ f.q b := h6; omega
           refine run_exit rfl <| run_region <| rl_v rfl rfl rfl (ov_move rfl rfl) <| rl_v rfl rfl rfl (ov_move rfl rfl) <| rl_v rfl rfl rfl (ov_index1 rfl Try.underlying23 (by kernel_rfl) rfl rfl ⟨by omega, by omega⟩ (by rfl)) ?_
           refine rl_ow rfl (ow_storeI rfl rfl (by kernel_rfl) hO 1 rfl rfl ⟨by omega, by omega⟩ rfl) ?_
           rintro _ w70 ⟨rfl, hO71, hs72⟩
           have hD9 : f.DA (upd (upd l g b) wo (-1)) (upd nx g (nx g + 1)) := by
            rw [hb] at hk hqc hwb hall ⊢
            exact hD.swap hf hg0 h3 hlg1 hn1 hk hqc hwo.1 hwo.2 hwb fun j j0 j1 hj => hall j j0 (by omega) hj
           refine rl_nil <| run_inBlock <| run_region <| rl_v rfl rfl rfl (ov_move rfl rfl) <| rl_v rfl rfl rfl (ov_add rfl rfl rfl (by omega)) ?_
           refine rl_v rfl rfl rfl (ov_assign rfl rfl) <| rl_nil ?_
           refine Run.use (ih33 (g + 1) (true) (upd (upd l g b) wo (-1)) (upd nx g (nx g + 1)) _ ?_ ?_) (And.intro (by exact slot_int rfl (by first | omega)) (And.intro (by rfl) (And.intro rfl (And.intro rfl (And.intro rfl (And.intro rfl trivial))))))
           ·first | omega | (dsimp only; omega)
           ·exact ⟨by omega, by omega, hD9, by omega, fun _ => by omega, (fun e => Bool.noConfusion e), hO71⟩
    ·refine run_exit rfl <| run_inBlock ?_
     refine Run.use (ih31 (ch) (l) (nx) _ ?_ ?_) (And.intro (by rfl) (And.intro rfl (And.intro rfl (And.intro rfl (And.intro rfl trivial)))))
     ·(cases ch; (simp; omega); (have := hlt rfl; simp; omega))
     ·exact ⟨hD, fun e i i0 i1 hi => hend e i i0 (by omega) hi, hO⟩
   ·refine run_exit rfl <| run_seq <| run_region <| rl_v rfl rfl rfl (ov_move rfl rfl) <| rl_v rfl rfl rfl (ov_assign rfl rfl) <| rl_nil <| run_ret Try.func15 (res1 Try.results15 rfl) ?_
    exact ⟨lb, l, rfl, hO.sub (.cons _ (.cons_cons _ (List.nil_sublist _))), hD.isBest hf (hend h2)⟩
end Go.Proofs.Ytlldeifbfpmbaaa
