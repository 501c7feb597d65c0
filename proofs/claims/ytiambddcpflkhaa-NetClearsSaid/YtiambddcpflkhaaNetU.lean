/- Crises: the reference's Waves; NetClears: the walk. -/
import Derived.Test.YtiambddcpflkhaaNetT
import Derived.Test.YtiambddcpflkhaaNetQ
set_option maxRecDepth 100000
namespace Go.Proofs.Ytiambddcpflkhaa
open Go.RowKit Go.Proofs

theorem refWaves_any (ao ac : Option Addr) (n c cc : Nat) (D : Int → Int → Int) (cash : Int → Int) (w : World) (hv : Valid n D) (hc : ∀ i : Int, 0 ≤ i → i < n → 0 ≤ cash i ∧ cash i ≤ 1000000)
    (h : ITab w.heap.size w ao n (fun _ => n) (fun r c => .int .i64 (D r c))) (hC : IAt w.heap.size w ac n (fun i => .int .i64 (cash i))) :
    Calls Try.prog 38 #[.agg [.slice ao n c, .slice ac n cc].toArray] w fun e w' => ∃ (K : Nat) (v : Value) (H : List (Option Blk)), e = .returned v ∧ Waved n D cash K ∧ K ≤ n ∧
      OTab v 55 3 K (fun r => (wv n D cash r.toNat).length) (fun r c => .int .i64 (lF (wv n D cash r.toNat) c)) H ∧ Own w.heap.size w w' H := by
  have hle := hv.le
  have hpos := hv.pos
  have hc9 : ∀ i : Int, 0 ≤ i → i < n → 0 ≤ cash i ∧ cash i ≤ 1000000000 := fun i i0 i1 => by have := hc i i0 i1; omega
  obtain ⟨qb, qo, hca, hcash⟩ := hC.open
  refine calls_of_run (F := [(0, _)]) Try.func38 rfl Try.ntmps38 rfl rfl ?_
  have hO0 := Own.init w
  refine run_seq ?_
  refine run_region ?_
  refine rl_ow rfl (ow_box _ rfl rfl rfl rfl rfl hO0) ?_
  rintro _ w1 ⟨b1, rfl, hO2, hs3⟩
  refine rl_v rfl rfl rfl (ov_assign rfl rfl) ?_
  refine rl_nil ?_
  refine run_seq ?_
  refine run_region ?_
  refine rl_v rfl rfl rfl (ov_fieldS rfl Try.underlying35 rfl (fo := 0) rfl (by kernel_rfl) rfl) ?_
  refine rl_v rfl rfl rfl (ov_load rfl Try.underlying22 rfl rfl (by first | exact hO2.cellI 0 rfl _ (by omega) (by omega) | exact hO2.cellL 0 rfl rfl | exact hO2.cellI 1 rfl _ (by omega) (by omega) | exact hO2.cellL 1 rfl rfl | exact hO2.cellI 2 rfl _ (by omega) (by omega) | exact hO2.cellL 2 rfl rfl | exact hO2.cellI 3 rfl _ (by omega) (by omega) | exact hO2.cellL 3 rfl rfl | exact hO2.cellI 4 rfl _ (by omega) (by omega) | exact hO2.cellL 4 rfl rfl | exact hO2.cellI 5 rfl _ (by omega) (by omega) | exact hO2.cellL 5 rfl rfl)) ?_
  refine rl_call callable_27 rfl rfl rfl rfl rfl rfl (refOwes_any ao n c D _ hv (h.later hO2.below)) (fun e4 w5 hp6 => ?_)
  obtain ⟨b2, rfl, hOc⟩ := hp6
  refine ⟨_, rfl, ?_⟩
  have hO7 := hO2.join hOc
  refine rl_v rfl rfl rfl (ov_assign rfl rfl) ?_
  refine rl_nil ?_
  refine run_seq ?_
  refine run_region ?_
  refine rl_v rfl rfl rfl (ov_move rfl rfl) ?_
  refine rl_v rfl rfl rfl (ov_len rfl Try.underlying23 rfl) ?_
  refine rl_make (n) rfl rfl rfl rfl Try.underlying48 info_4 rfl hO7 rfl rfl (by first | rfl | omega) (by first | rfl | omega) ⟨by omega, by omega⟩ (fun b6 w8 hO9 hs10 => ?_)
  refine rl_v rfl rfl rfl (ov_assign rfl rfl) ?_
  refine rl_nil ?_
  refine run_seq ?_
  refine run_region ?_
  refine rl_v rfl rfl rfl (ov_assign rfl rfl) ?_
  refine rl_nil ?_
  refine run_block ?_
  refine Run.keep [1, 3, 4, 5] (F' := [(1, _), (3, _), (4, _), (5, _)]) rfl ?_
  refine run_loop4 (fun (K : Nat) (v : Value) (g : Int → Bool) (H : List (Option Blk)) => [(5, v)]) [1, 3, 4] (fun (K : Nat) (v : Value) (g : Int → Bool) (H : List (Option Blk)) (w11 : World) => K ≤ (pk (fallen n D cash K) n).length ∧ OTab v 55 3 K (fun r => (wv n D cash r.toNat).length) (fun r c => .int .i64 (lF (wv n D cash r.toNat) c)) H ∧ (∀ j, j < K → wv n D cash j ≠ []) ∧ (∀ i : Int, 0 ≤ i → i < n → g i = fallen n D cash K i) ∧ Own w.heap.size w w11 (some (vch b6 4 n (fun i => .bool (g i))) :: some (vch b2 2 n (fun i => .int .i64 (ow n D i))) :: some (lch b1 35 [.slice ao n c, .slice ac n cc]) :: H)) (fun (K : Nat) (v : Value) (g : Int → Bool) (H : List (Option Blk)) => n - (pk (fallen n D cash K) n).length) (0) (.slice none 0 0) (fun _ => false) ([none]) ?_ (And.intro rfl (And.intro rfl (And.intro rfl (And.intro rfl trivial)))) ?_
  · exact ⟨by omega, OTab.nil _ _ _ _, fun j hj => by omega, fun i i0 i1 => rfl, hO9.nil_cons.perm (List.perm_append_comm (l₁ := [none]))⟩
  intro K v g H w11 hIw11 ih12
  obtain ⟨hKn, hT, hsome, hg, hO⟩ := hIw11
  show Run _ _ _ _ [(5, _), (1, _), (3, _), (4, _)] _ _
  refine run_block ?_
  refine run_seq ?_
  refine run_held (fun w' => Own w.heap.size w w' (some (vch b6 4 n (fun i => .bool (g i))) :: some (vch b2 2 n (fun i => .int .i64 (ow n D i))) :: some (lch b1 35 [.slice ao n c, .slice ac n cc]) :: H)) mixed ?_
  have hO14 := hO.drew
  generalize World.drew w11 = w13 at hO14 ⊢
  have hS15 : Own w.heap.size w w13 (some (vch b6 4 n (fun i => .bool (g i))) :: some (vch b2 2 n (fun i => .int .i64 (ow n D i))) :: some (lch b1 35 [.slice ao n c, .slice ac n cc]) :: H) := by first | exact hO14 | exact hO14.tail | exact hO14.tail.tail
  refine rh_v 0 rfl (by kernel_rfl) rfl rfl rfl hS15 (fun _ hS => ov_fieldS rfl Try.underlying35 rfl (fo := 0) rfl (by kernel_rfl) rfl) ?_
  refine rh_v 1 rfl (by kernel_rfl) rfl rfl rfl hS15 (fun _ hS => ov_load rfl Try.underlying22 rfl rfl (by first | exact hS.cellL 2 rfl rfl)) ?_
  refine rh_v 2 rfl (by kernel_rfl) rfl rfl rfl hS15 (fun _ hS => ov_loadW rfl Try.underlying35 rfl (by kernel_rfl) rfl hS 2 rfl) ?_
  refine rh_v 3 rfl (by kernel_rfl) rfl rfl rfl hS15 (fun _ hS => ov_move rfl rfl) ?_
  refine rh_any1 4 (by kernel_rfl) ?_
  refine rc_op rfl rfl (ow_call2 callable_28 rfl rfl rfl rfl rfl (refGreatest_any ao ac _ n c cc n D cash g _ hv hc9 (h.later hO14.below) (hC.later hO14.below) (hO14.readsI 0 rfl)) (by intro e w' hp; obtain ⟨p, vp, cp', rfl, hp, hrp, hOp⟩ := hp; exact ⟨_, rfl⟩)) ?_
  rintro _ w18 ⟨_, v16, he19, rfl, hp17⟩
  obtain ⟨p, vp, cp', rfl, hp, hrp, hOp⟩ := hp17
  injection he19 with he19; subst he19
  have hO20 := hO14.join hOp
  have hS21 : Own w.heap.size w w18 (some (vch b6 4 n (fun i => .bool (g i))) :: some (vch b2 2 n (fun i => .int .i64 (ow n D i))) :: some (lch b1 35 [.slice ao n c, .slice ac n cc]) :: H) := by first | exact hO20 | exact hO20.tail | exact hO20.tail.tail
  refine ⟨hS21, ?_⟩
  obtain ⟨aop, capp, rfl⟩ := hrp.val
  refine rh_any1 5 (by kernel_rfl) ?_
  refine rc_op rfl rfl (ow_call2 callable_24 rfl rfl rfl rfl rfl (refReceived_any ao aop n c n capp D p _ hv (Nat.le_refl _) hp.rng (h.later hO20.below) (hrp.reads hO20 0 rfl)) (by intro e w' hp; obtain ⟨b8, rfl, hO8⟩ := hp; exact ⟨_, rfl⟩)) ?_
  rintro _ w24 ⟨_, v22, he25, rfl, hp23⟩
  obtain ⟨b8, rfl, hO8⟩ := hp23
  injection he25 with he25; subst he25
  have hO26 := hO20.join hO8
  have hS27 : Own w.heap.size w w24 (some (vch b6 4 n (fun i => .bool (g i))) :: some (vch b2 2 n (fun i => .int .i64 (ow n D i))) :: some (lch b1 35 [.slice ao n c, .slice ac n cc]) :: H) := by first | exact hO26 | exact hO26.tail | exact hO26.tail.tail
  refine ⟨hS27, ?_⟩
  have hO9 := (hO26.sub (H' := some (vch b8 2 n (fun i => .int .i64 (rcv n D p i))) :: some (vch b6 4 n (fun i => .bool (g i))) :: some (vch b2 2 n (fun i => .int .i64 (ow n D i))) :: some (lch b1 35 [.slice ao n c, .slice ac n cc]) :: H) (.cons_cons _ (.cons _ (.refl _)))).nil_cons
  refine rh_v 6 rfl (by kernel_rfl) rfl rfl rfl hS27 (fun _ hS => ov_assign rfl rfl) ?_
  refine rh_done (by kernel_rfl) ?_
  refine run_seq ?_
  refine run_region ?_
  refine rl_v rfl rfl rfl (ov_assign rfl rfl) ?_
  refine rl_nil ?_
  refine run_seq ?_
  refine run_seq ?_
  refine run_region ?_
  refine rl_v rfl rfl rfl (ov_assign rfl rfl) ?_
  refine rl_nil ?_
  refine run_block ?_
  refine Run.keep [1, 3, 4, 5, 6, 7, 8] (F' := [(1, _), (3, _), (4, _), (5, _), (6, _), (7, _), (8, _)]) rfl ?_
  refine run_loop3 (fun (k : Int) (vw : Value) (cr : Option Blk) => [(8, .int .i64 k), (7, vw)]) [1, 3, 4, 5, 6] (fun (k : Int) (vw : Value) (cr : Option Blk) (w28 : World) => 0 ≤ k ∧ k ≤ n ∧ IRow vw 3 (pk (wvP n D cash g p) k.toNat).length (fun j => .int .i64 (lF (pk (wvP n D cash g p) k.toNat) j)) cr ∧ Own w.heap.size w w28 (cr :: some (vch b8 2 n (fun i => .int .i64 (rcv n D p i))) :: some (vch b6 4 n (fun i => .bool (g i))) :: some (vch b2 2 n (fun i => .int .i64 (ow n D i))) :: some (lch b1 35 [.slice ao n c, .slice ac n cc]) :: H)) (fun (k : Int) (vw : Value) (cr : Option Blk) => ((n : Int) - k).toNat) (0) (.slice none 0 0) (none) ?_ (And.intro (by first | with_reducible rfl | exact slot_int rfl (by first | omega) | rfl) (And.intro rfl (And.intro rfl (And.intro rfl (And.intro rfl (And.intro rfl (And.intro rfl trivial))))))) ?_
  · exact ⟨by omega, by omega, IRow.nil _ _, hO9⟩
  intro k vw cr w28 hIw28 ih29
  obtain ⟨hk0, hk1, hr, hO⟩ := hIw28
  show Run _ _ _ _ [(8, _), (7, _), (1, _), (3, _), (4, _), (5, _), (6, _)] _ _
  refine run_seq ?_
  refine run_seq ?_
  refine run_region ?_
  refine rl_v rfl rfl rfl (ov_move rfl rfl) ?_
  refine rl_v rfl rfl rfl (ov_move rfl rfl) ?_
  refine rl_v rfl rfl rfl (ov_len rfl Try.underlying23 rfl) ?_
  refine rl_v rfl rfl rfl (ov_lss rfl rfl rfl) ?_
  refine rl_nil ?_
  first | refine run_cond_dec rfl (fun h2 => ?_) (fun h2 => ?_) | refine run_cond rfl (fun h2 => ?_) (fun h2 => ?_)
  · have hlen := pk_len (wvP n D cash g p) k.toNat
    have hck := hc k hk0 h2
    have hrr := rcv_rng hv p hp.rng k
    refine run_skip ?_
    refine run_seq ?_
    refine run_block ?_
    refine run_seq ?_
    refine run_quiet mixed (by kernel_rfl) ?_
    refine rq_v rfl rfl rfl (fun _ => ov_move rfl rfl) ?_
    refine rq_v rfl rfl rfl (fun _ => ov_move rfl rfl) ?_
    refine rq_v rfl rfl rfl (fun _ => ov_index1 rfl Try.underlying48 (by kernel_rfl) rfl rfl ⟨by omega, by omega⟩ (by first | rfl | exact hca (by omega))) ?_
    refine rq_v rfl rfl rfl (fun _ => ov_load rfl Try.underlying4 rfl rfl (by show World.cell? w28 _ = _; first | exact hO.cellI 2 rfl k hk0 (by omega))) ?_
    refine rq_v rfl rfl rfl (fun _ => ov_not rfl rfl) ?_
    refine rq_v rfl rfl rfl (fun _ => ov_move rfl rfl) ?_
    first | refine rq_split_dec 33 rfl (fun hg1 => ?_) (fun hg1 => ?_) | refine rq_split 33 rfl (fun hg1 => ?_) (fun hg1 => ?_)
    · refine rq_gv rfl rfl rfl rfl rfl (fun _ => ov_fieldS rfl Try.underlying35 rfl (fo := 1) rfl (by kernel_rfl) rfl) ?_
      refine rq_gv rfl rfl rfl rfl rfl (fun _ => ov_load rfl Try.underlying23 rfl rfl (by show World.cell? w28 _ = _; first | exact hcash _ hO.below _ (by omega) (by omega) | exact hO.cellI 0 rfl _ (by omega) (by omega) | exact hO.cellL 0 rfl rfl | exact hO.cellI 1 rfl _ (by omega) (by omega) | exact hO.cellL 1 rfl rfl | exact hO.cellI 2 rfl _ (by omega) (by omega) | exact hO.cellL 2 rfl rfl | exact hO.cellI 3 rfl _ (by omega) (by omega) | exact hO.cellL 3 rfl rfl | exact hO.cellI 4 rfl _ (by omega) (by omega) | exact hO.cellL 4 rfl rfl | exact hO.cellI 5 rfl _ (by omega) (by omega) | exact hO.cellL 5 rfl rfl)) ?_
      refine rq_gv rfl rfl rfl rfl rfl (fun _ => ov_move rfl rfl) ?_
      refine rq_gv rfl rfl rfl rfl rfl (fun _ => ov_index1 rfl Try.underlying23 (by kernel_rfl) rfl rfl ⟨by omega, by omega⟩ (by first | rfl | exact hca (by omega))) ?_
      refine rq_gv rfl rfl rfl rfl rfl (fun _ => ov_load rfl Try.underlying2 rfl rfl (by show World.cell? w28 _ = _; first | exact hcash _ hO.below _ (by omega) (by omega) | exact hO.cellI 0 rfl _ (by omega) (by omega) | exact hO.cellL 0 rfl rfl | exact hO.cellI 1 rfl _ (by omega) (by omega) | exact hO.cellL 1 rfl rfl | exact hO.cellI 2 rfl _ (by omega) (by omega) | exact hO.cellL 2 rfl rfl | exact hO.cellI 3 rfl _ (by omega) (by omega) | exact hO.cellL 3 rfl rfl | exact hO.cellI 4 rfl _ (by omega) (by omega) | exact hO.cellL 4 rfl rfl | exact hO.cellI 5 rfl _ (by omega) (by omega) | exact hO.cellL 5 rfl rfl)) ?_
      refine rq_gv rfl rfl rfl rfl rfl (fun _ => ov_move rfl rfl) ?_
      refine rq_gv rfl rfl rfl rfl rfl (fun _ => ov_move rfl rfl) ?_
      refine rq_gv rfl rfl rfl rfl rfl (fun _ => ov_index1 rfl Try.underlying23 (by kernel_rfl) rfl rfl ⟨by omega, by omega⟩ (by first | rfl | exact hca (by omega))) ?_
      refine rq_gv rfl rfl rfl rfl rfl (fun _ => ov_load rfl Try.underlying2 rfl rfl (by show World.cell? w28 _ = _; first | exact hO.cellI 1 rfl k hk0 (by omega))) ?_
      refine rq_gv rfl rfl rfl rfl rfl (fun _ => ov_add rfl rfl rfl (by omega)) ?_
      refine rq_gv rfl rfl rfl rfl rfl (fun _ => ov_move rfl rfl) ?_
      refine rq_gv rfl rfl rfl rfl rfl (fun _ => ov_move rfl rfl) ?_
      refine rq_gv rfl rfl rfl rfl rfl (fun _ => ov_index1 rfl Try.underlying23 (by kernel_rfl) rfl rfl ⟨by omega, by omega⟩ (by first | rfl | exact hca (by omega))) ?_
      refine rq_gv rfl rfl rfl rfl rfl (fun _ => ov_load rfl Try.underlying2 rfl rfl (by show World.cell? w28 _ = _; first | exact hO.cellI 3 rfl k hk0 (by omega))) ?_
      refine rq_gv rfl rfl rfl rfl rfl (fun _ => ov_lss rfl rfl rfl) ?_
      refine rq_v rfl rfl rfl (fun _ => ov_pick_t rfl rfl rfl) ?_
      refine rq_nil (fun n31 => ?_)
      have hO33 := hO.drewN n31
      generalize World.drewN w28 n31 = w32 at hO33 ⊢
      first | refine run_cond_dec rfl (fun h3 => ?_) (fun h3 => ?_) | refine run_cond rfl (fun h3 => ?_) (fun h3 => ?_)
      · have hP : wvP n D cash g p k = true := by unfold wvP; rw [hg1, Bool.true_and]; exact decide_eq_true h3
        refine run_region ?_
        refine rl_v rfl rfl rfl (ov_move rfl rfl) ?_
        refine rl_v rfl rfl rfl (ov_move rfl rfl) ?_
        refine rl_appI rfl rfl rfl rfl rfl rfl rfl rfl Try.underlying55 info_3 rfl hO33 0 hr rfl rfl rfl ⟨by omega, by omega⟩ (fun v5 c5 w34 hO35 hr5 hs36 => ?_)
        refine rl_v rfl rfl rfl (ov_assign rfl rfl) ?_
        refine rl_nil ?_
        refine run_inBlock ?_
        refine run_region ?_
        refine rl_v rfl rfl rfl (ov_move rfl rfl) ?_
        refine rl_v rfl rfl rfl (ov_add rfl rfl rfl (by omega)) ?_
        refine rl_v rfl rfl rfl (ov_assign rfl rfl) ?_
        refine rl_nil ?_
        refine Run.use (ih29 (k + 1) (v5) (c5) _ ?_ ?_) (And.intro (by first | with_reducible rfl | exact slot_int rfl (by first | omega) | rfl) (And.intro rfl (And.intro rfl (And.intro rfl (And.intro rfl (And.intro rfl (And.intro rfl trivial)))))))
        · first | omega | (dsimp only; omega)
        · exact ⟨by omega, by omega, row_is (row_snoc hr5) (pk_yes hk0 hP).symm, hO35⟩
      · have hP : wvP n D cash g p k = false := by unfold wvP; rw [hg1, Bool.true_and]; exact decide_eq_false h3
        refine run_skip ?_
        refine run_inBlock ?_
        refine run_region ?_
        refine rl_v rfl rfl rfl (ov_move rfl rfl) ?_
        refine rl_v rfl rfl rfl (ov_add rfl rfl rfl (by omega)) ?_
        refine rl_v rfl rfl rfl (ov_assign rfl rfl) ?_
        refine rl_nil ?_
        refine Run.use (ih29 (k + 1) (vw) (cr) _ ?_ ?_) (And.intro (by first | with_reducible rfl | exact slot_int rfl (by first | omega) | rfl) (And.intro rfl (And.intro rfl (And.intro rfl (And.intro rfl (And.intro rfl (And.intro rfl trivial)))))))
        · first | omega | (dsimp only; omega)
        · exact ⟨by omega, by omega, row_is hr (pk_no hk0 hP).symm, hO33⟩
    · have hP : wvP n D cash g p k = false := by unfold wvP; rw [hg1, Bool.false_and]
      refine rq_gskip rfl rfl rfl rfl rfl rfl ?_
      refine rq_gskip rfl rfl rfl rfl rfl rfl ?_
      refine rq_gskip rfl rfl rfl rfl rfl rfl ?_
      refine rq_gskip rfl rfl rfl rfl rfl rfl ?_
      refine rq_gskip rfl rfl rfl rfl rfl rfl ?_
      refine rq_gskip rfl rfl rfl rfl rfl rfl ?_
      refine rq_gskip rfl rfl rfl rfl rfl rfl ?_
      refine rq_gskip rfl rfl rfl rfl rfl rfl ?_
      refine rq_gskip rfl rfl rfl rfl rfl rfl ?_
      refine rq_gskip rfl rfl rfl rfl rfl rfl ?_
      refine rq_gskip rfl rfl rfl rfl rfl rfl ?_
      refine rq_gskip rfl rfl rfl rfl rfl rfl ?_
      refine rq_gskip rfl rfl rfl rfl rfl rfl ?_
      refine rq_gskip rfl rfl rfl rfl rfl rfl ?_
      refine rq_gskip rfl rfl rfl rfl rfl rfl ?_
      refine rq_v rfl rfl rfl (fun _ => ov_pick_f rfl rfl rfl) ?_
      refine rq_nil (fun n37 => ?_)
      have hO39 := hO.drewN n37
      generalize World.drewN w28 n37 = w38 at hO39 ⊢
      refine run_cond_f rfl ?_
      refine run_skip ?_
      refine run_inBlock ?_
      refine run_region ?_
      refine rl_v rfl rfl rfl (ov_move rfl rfl) ?_
      refine rl_v rfl rfl rfl (ov_add rfl rfl rfl (by omega)) ?_
      refine rl_v rfl rfl rfl (ov_assign rfl rfl) ?_
      refine rl_nil ?_
      refine Run.use (ih29 (k + 1) (vw) (cr) _ ?_ ?_) (And.intro (by first | with_reducible rfl | exact slot_int rfl (by first | omega) | rfl) (And.intro rfl (And.intro rfl (And.intro rfl (And.intro rfl (And.intro rfl (And.intro rfl trivial)))))))
      · first | omega | (dsimp only; omega)
      · exact ⟨by omega, by omega, row_is hr (pk_no hk0 hP).symm, hO39⟩
  · obtain rfl : k = n := by omega
    have hlw : pk (wvP n D cash g p) (n : Int).toNat = wv n D cash K := wavesRound hg hp
    have hr2 := row_is hr hlw
    obtain ⟨aw, cw, rfl⟩ := hr2.val
    refine run_exit rfl ?_
    refine run_seq ?_
    refine run_seq ?_
    refine run_region ?_
    refine rl_v rfl rfl rfl (ov_move rfl rfl) ?_
    refine rl_v rfl rfl rfl (ov_len rfl Try.underlying55 rfl) ?_
    refine rl_v rfl rfl rfl (ov_eql rfl rfl rfl) ?_
    refine rl_nil ?_
    first | refine run_cond_dec rfl (fun h5 => ?_) (fun h5 => ?_) | refine run_cond rfl (fun h5 => ?_) (fun h5 => ?_)
    · refine run_seq ?_
      refine run_region ?_
      refine rl_v rfl rfl rfl (ov_move rfl rfl) ?_
      refine rl_v rfl rfl rfl (ov_assign rfl rfl) ?_
      refine rl_nil ?_
      refine run_ret Try.func38 (res1 Try.results38 rfl) ?_
      exact ⟨K, v, H, rfl, ⟨hsome, List.length_eq_zero_iff.1 (by omega)⟩, by have := pk_len (fallen n D cash K) n; omega, hT, hO.sub (.cons _ (.cons _ (.cons _ (.cons _ (.cons _ (.refl _))))))⟩
    · have hl1 : 1 ≤ (wv n D cash K).length := by omega
      have hne : wv n D cash K ≠ [] := fun e => by rw [e] at hl1; exact absurd hl1 (by decide)
      have hlt := fallen_lt hne
      have hln := pk_len (fallen n D cash (K + 1)) n
      have hlen : (wv n D cash K).length ≤ n := pk_len _ _
      obtain ⟨wb, Gw, rfl, hq1, hq2, rfl, hGw⟩ := hr2.asV hl1
      refine run_skip ?_
      refine run_seq ?_
      refine run_seq ?_
      refine run_region ?_
      refine rl_v rfl rfl rfl (ov_assign rfl rfl) ?_
      refine rl_nil ?_
      refine run_block ?_
      refine Run.keep [1, 3, 4, 5, 7, 9] (F' := [(1, _), (3, _), (4, _), (5, _), (7, _), (9, _)]) rfl ?_
      refine run_loop2 (fun (j : Int) (g2 : Int → Bool) => [(9, .int .i64 j)]) [1, 3, 4, 5, 7] (fun (j : Int) (g2 : Int → Bool) (w40 : World) => 0 ≤ j ∧ j ≤ (wv n D cash K).length ∧ (∀ i, g2 i = (g i ||decide (i ∈ (wv n D cash K).take j.toNat))) ∧ Own w.heap.size w w40 (some (vch wb 3 cw Gw) :: some (vch b8 2 n (fun i => .int .i64 (rcv n D p i))) :: some (vch b6 4 n (fun i => .bool (g2 i))) :: some (vch b2 2 n (fun i => .int .i64 (ow n D i))) :: some (lch b1 35 [.slice ao n c, .slice ac n cc]) :: H)) (fun (j : Int) (g2 : Int → Bool) => (((wv n D cash K).length : Int) - j).toNat) (0) (g) ?_ (And.intro (by first | with_reducible rfl | exact slot_int rfl (by first | omega) | rfl) (And.intro rfl (And.intro rfl (And.intro rfl (And.intro rfl (And.intro rfl trivial)))))) ?_
      · exact ⟨by omega, by omega, fun i => by simp, hO⟩
      intro j g2 w40 hIw40 ih41
      obtain ⟨hj0, hj1, hg2, hO⟩ := hIw40
      show Run _ _ _ _ [(9, _), (1, _), (3, _), (4, _), (5, _), (7, _)] _ _
      refine run_seq ?_
      refine run_seq ?_
      refine run_region ?_
      refine rl_v rfl rfl rfl (ov_move rfl rfl) ?_
      refine rl_v rfl rfl rfl (ov_move rfl rfl) ?_
      refine rl_v rfl rfl rfl (ov_len rfl Try.underlying55 rfl) ?_
      refine rl_v rfl rfl rfl (ov_lss rfl rfl rfl) ?_
      refine rl_nil ?_
      first | refine run_cond_dec rfl (fun h6 => ?_) (fun h6 => ?_) | refine run_cond rfl (fun h6 => ?_) (fun h6 => ?_)
      · have hxr := wv_mem (lF_mem.2 ⟨j, hj0, h6, rfl⟩)
        refine run_skip ?_
        refine run_seq ?_
        refine run_block ?_
        refine run_region ?_
        refine rl_v rfl rfl rfl (ov_move rfl rfl) ?_
        refine rl_v rfl rfl rfl (ov_move rfl rfl) ?_
        refine rl_v rfl rfl rfl (ov_move rfl rfl) ?_
        refine rl_v rfl rfl rfl (ov_index1 rfl Try.underlying55 (by kernel_rfl) rfl rfl ⟨by omega, by omega⟩ (by first | rfl | exact hca (by omega))) ?_
        refine rl_v rfl rfl rfl (ov_load rfl Try.underlying3 rfl rfl (by first | exact (hO.cellI 0 rfl j hj0 (by omega)).trans (congrArg some (hGw j hj0 h6)))) ?_
        refine rl_v rfl rfl rfl (ov_index1 rfl Try.underlying48 (by kernel_rfl) rfl rfl ⟨by omega, by omega⟩ (by first | rfl | exact hca (by omega))) ?_
        first | refine rl_storeB rfl rfl rfl (by kernel_rfl) hO 2 rfl rfl ⟨by omega, by omega⟩ rfl (fun w42 hO43 hs44 => ?_)
        refine rl_nil ?_
        refine run_inBlock ?_
        refine run_region ?_
        refine rl_v rfl rfl rfl (ov_move rfl rfl) ?_
        refine rl_v rfl rfl rfl (ov_add rfl rfl rfl (by omega)) ?_
        refine rl_v rfl rfl rfl (ov_assign rfl rfl) ?_
        refine rl_nil ?_
        refine Run.use (ih41 (j + 1) (upd g2 (lF (wv n D cash K) j) true) _ ?_ ?_) (And.intro (by first | with_reducible rfl | exact slot_int rfl (by first | omega) | rfl) (And.intro rfl (And.intro rfl (And.intro rfl (And.intro rfl (And.intro rfl trivial))))))
        · first | omega | (dsimp only; omega)
        · exact ⟨by omega, by omega, fun i => by rw [show g2 = _ from funext hg2]; exact fall_up hj0 h6 rfl, hO43⟩
      · have hjl : j = (wv n D cash K).length := by omega
        obtain ⟨c0, rv, ch, rfl, hvt, h3t⟩ := hT
        refine run_exit rfl ?_
        refine run_region ?_
        refine rl_v rfl rfl rfl (ov_move rfl rfl) ?_
        refine rl_v rfl rfl rfl (ov_move rfl rfl) ?_
        refine rl_appV rfl rfl rfl rfl rfl rfl rfl rfl Try.underlying58 info_55 rfl hO 5 hvt rfl rfl rfl rfl ⟨by omega, by omega⟩ (fun v6 c6 w45 hO46 hv6 hs47 => ?_)
        obtain ⟨H', hT', hO'⟩ := OTab.snoc (L := fun r => (wv n D cash r.toNat).length) (F := fun r c => .int .i64 (lF (wv n D cash r.toNat) c)) (H0 := [some (vch b6 4 n (fun i => .bool (g2 i))), some (vch b2 2 n (fun i => .int .i64 (ow n D i))), some (lch b1 35 [.slice ao n c, .slice ac n cc])]) h3t hr2 hv6 ((hO46.sub (.cons_cons _ (.cons _ (.refl _)))).perm (List.Perm.cons _ (List.perm_append_comm (l₁ := [_, _, _]) (l₂ := c6 :: (List.range K).map ch)))) rfl (fun i _ _ => rfl)
        refine rl_v rfl rfl rfl (ov_assign rfl rfl) ?_
        refine rl_nil ?_
        refine run_inBlock ?_
        refine Run.use (ih12 (K + 1) (v6) (g2) (H') _ ?_ ?_) (And.intro rfl (And.intro rfl (And.intro rfl (And.intro rfl trivial))))
        · first | omega | (dsimp only; omega)
        · exact ⟨by omega, hT', fun j hj => (by omega : j = K ∨ j < K).elim (fun e => by rw [e]; exact hne) (fun e => hsome j e), fallen_next hg hg2 hjl, hO'.perm List.perm_append_comm⟩

theorem netClears_any (ao bo : Option Addr) (G Gc R cb : Nat) (L : Int → Nat) (D0 : Int → Int → Int) (c0 : Int → Int) (w : World)
    (h : ITab w.heap.size w ao G L (fun r c => .int .i64 (D0 r c))) (h2 : IAt w.heap.size w bo R (fun i => .int .i64 (c0 i))) :
    Calls Try.prog 6 #[.agg [.slice ao G Gc, .slice bo R cb].toArray] w fun e w' => e = .returned (.bool true) ∧ Below w.heap.size w w' := by
  refine calls_of_run (F := [(0, _)]) Try.func6 rfl Try.ntmps6 rfl rfl ?_
  have hO0 := Own.init w
  refine run_seq ?_
  refine run_region ?_
  refine rl_ow rfl (ow_box _ rfl rfl rfl rfl rfl hO0) ?_
  rintro _ w1 ⟨b1, rfl, hO2, hs3⟩
  refine rl_v rfl rfl rfl (ov_assign rfl rfl) ?_
  refine rl_nil ?_
  refine run_seq ?_
  refine run_region ?_
  refine rl_v rfl rfl rfl (ov_loadW rfl Try.underlying35 rfl (by kernel_rfl) rfl hO2 0 rfl) ?_
  refine rl_call callable_19 rfl rfl rfl rfl rfl rfl (crisis_any ao bo G Gc R cb 8 L D0 c0 _ (by omega) (by omega) (h.later hO2.below) (h2.later hO2.below)) (fun e4 w5 hp6 => ?_)
  obtain ⟨to, tx, tc, xc, n, D, cash, H, cc, rfl, hT, hrc, hOc, hv, hn6, hD60, hcash⟩ := hp6
  refine ⟨_, rfl, ?_⟩
  have hOA := hO2.join hOc
  have hIT := hT.reads (H' := []) (by simpa using hOc.tail)
  have hIC := hrc.reads hOc 0 rfl
  have hI0 := Own.init w5
  have hn1 := hv.pos
  have hle := hv.le
  have hc6 : ∀ i : Int, 0 ≤ i → i < n → 0 ≤ cash i ∧ cash i ≤ 1000000 := fun i _ _ => hcash i
  refine rl_ow rfl (ow_alloc _ rfl rfl rfl zero_35 rfl hI0) ?_
  rintro _ w7 ⟨b3, rfl, hO8, hs9⟩
  refine rl_ow rfl (ow_storeW rfl rfl (by kernel_rfl) hO8 0 rfl rfl (by rfl) rfl (by rfl)) ?_
  rintro _ w10 ⟨rfl, hO11, hs12⟩
  refine rl_nil ?_
  refine run_seq ?_
  refine run_region ?_
  refine rl_v rfl rfl rfl (ov_loadW rfl Try.underlying35 rfl (by kernel_rfl) rfl hO11 0 rfl) ?_
  refine rl_call callable_20 rfl rfl rfl rfl rfl rfl (give_any to tx n tc n xc _) (fun e13 w14 hp15 => ?_)
  obtain ⟨rfl, hbg⟩ := hp15
  refine ⟨_, rfl, ?_⟩
  have hO16 := hO11.past hbg
  refine rl_ow rfl (ow_alloc _ rfl rfl rfl zero_37 rfl hO16) ?_
  rintro _ w17 ⟨b4, rfl, hO18, hs19⟩
  refine rl_ow rfl (ow_storeW rfl rfl (by kernel_rfl) hO18 0 rfl rfl (by rfl) rfl (by rfl)) ?_
  rintro _ w20 ⟨rfl, hO21, hs22⟩
  refine rl_nil ?_
  refine run_seq ?_
  refine run_region ?_
  refine rl_v rfl rfl rfl (ov_fieldS rfl Try.underlying35 rfl (fo := 0) rfl (by kernel_rfl) rfl) ?_
  refine rl_v rfl rfl rfl (ov_load rfl Try.underlying22 rfl rfl (by first | exact hO21.cellI 0 rfl _ (by omega) (by omega) | exact hO21.cellL 0 rfl rfl | exact hO21.cellI 1 rfl _ (by omega) (by omega) | exact hO21.cellL 1 rfl rfl | exact hO21.cellI 2 rfl _ (by omega) (by omega) | exact hO21.cellL 2 rfl rfl | exact hO21.cellI 3 rfl _ (by omega) (by omega) | exact hO21.cellL 3 rfl rfl | exact hO21.cellI 4 rfl _ (by omega) (by omega) | exact hO21.cellL 4 rfl rfl | exact hO21.cellI 5 rfl _ (by omega) (by omega) | exact hO21.cellL 5 rfl rfl)) ?_
  refine rl_v rfl rfl rfl (ov_len rfl Try.underlying22 rfl) ?_
  refine rl_v rfl rfl rfl (ov_assign rfl rfl) ?_
  refine rl_nil ?_
  refine run_seq ?_
  refine run_region ?_
  refine rl_v rfl rfl rfl (ov_loadW rfl Try.underlying37 rfl (by kernel_rfl) rfl hO21 0 rfl) ?_
  refine rl_call callable_32 rfl rfl rfl rfl rfl rfl (Clear_any to tx n tc xc D cash _ hv hc6 (hIT.later hO21.below) (hIC.later hO21.below)) (fun e23 w24 hp25 => ?_)
  obtain ⟨v6, p, c6, rfl, hp, hr6, hO6⟩ := hp25
  refine ⟨_, rfl, ?_⟩
  have hO26 := hO21.join hO6
  refine rl_v rfl rfl rfl (ov_move rfl rfl) ?_
  refine rl_v rfl rfl rfl (ov_extract rfl rfl (by rfl)) ?_
  refine rl_v rfl rfl rfl (ov_extract rfl rfl (by rfl)) ?_
  refine rl_v rfl rfl rfl (ov_assign rfl rfl) ?_
  refine rl_v rfl rfl rfl (ov_assign rfl rfl) ?_
  refine rl_nil ?_
  refine run_seq ?_
  refine run_held (fun w' => Own w5.heap.size w5 w' ([c6, some (lch b4 37 [.slice to n tc, .slice tx n xc]), some (lch b3 35 [.slice to n tc, .slice tx n xc])])) mixed ?_
  have hO28 := hO26.drew
  generalize World.drew w24 = w27 at hO28 ⊢
  have hS29 : Own w5.heap.size w5 w27 ([c6, some (lch b4 37 [.slice to n tc, .slice tx n xc]), some (lch b3 35 [.slice to n tc, .slice tx n xc])]) := by first | exact hO28 | exact hO28.tail | exact hO28.tail.tail
  refine rh_v 0 rfl (by kernel_rfl) rfl rfl rfl hS29 (fun _ hS => ov_loadW rfl Try.underlying35 rfl (by kernel_rfl) rfl hS 2 rfl) ?_
  refine rh_v 1 rfl (by kernel_rfl) rfl rfl rfl hS29 (fun _ hS => ov_move rfl rfl) ?_
  refine rh_any1 2 (by kernel_rfl) ?_
  refine rc_op rfl rfl (ow_call2 callable_29 rfl rfl rfl rfl rfl (refAll_any n _ hle) (by intro e w' hp; obtain ⟨bA, rfl, hOa⟩ := hp; exact ⟨_, rfl⟩)) ?_
  rintro _ w32 ⟨_, v30, he33, rfl, hp31⟩
  obtain ⟨bA, rfl, hOa⟩ := hp31
  injection he33 with he33; subst he33
  have hO34 := hO28.join hOa
  have hS35 : Own w5.heap.size w5 w32 ([c6, some (lch b4 37 [.slice to n tc, .slice tx n xc]), some (lch b3 35 [.slice to n tc, .slice tx n xc])]) := by first | exact hO34 | exact hO34.tail | exact hO34.tail.tail
  refine ⟨hS35, ?_⟩
  refine rh_any1 3 (by kernel_rfl) ?_
  refine rc_op rfl rfl (ow_call2 callable_28 rfl rfl rfl rfl rfl (refGreatest_any to tx _ n tc xc n D cash (fun _ => true) _ hv (fun i i0 i1 => by have := hcash i; omega) (hIT.later hO34.below) (hIC.later hO34.below) (hO34.readsI 0 rfl)) (by intro e w' hp; obtain ⟨q, v8, c8, rfl, hq, hr8, hO8⟩ := hp; exact ⟨_, rfl⟩)) ?_
  rintro _ w38 ⟨_, v36, he39, rfl, hp37⟩
  obtain ⟨q, v8, c8, rfl, hq, hr8, hO8⟩ := hp37
  injection he39 with he39; subst he39
  have hO40 := hO34.join hO8
  have hS41 : Own w5.heap.size w5 w38 ([c6, some (lch b4 37 [.slice to n tc, .slice tx n xc]), some (lch b3 35 [.slice to n tc, .slice tx n xc])]) := by first | exact hO40 | exact hO40.tail | exact hO40.tail.tail
  refine ⟨hS41, ?_⟩
  have hO9 := hO40.sub (H' := [c8, c6, some (lch b4 37 [.slice to n tc, .slice tx n xc]), some (lch b3 35 [.slice to n tc, .slice tx n xc])]) (.cons_cons _ (.cons _ (.refl _)))
  refine rh_v 4 rfl (by kernel_rfl) rfl rfl rfl hS41 (fun _ hS => ov_assign rfl rfl) ?_
  refine rh_done (by kernel_rfl) ?_
  refine run_seq ?_
  refine run_region ?_
  refine rl_v rfl rfl rfl (ov_loadW rfl Try.underlying37 rfl (by kernel_rfl) rfl hO9 2 rfl) ?_
  refine rl_call callable_33 rfl rfl rfl rfl rfl rfl (failing_any2 to tx n tc xc D cash _ hv hc6 (hIT.later hO9.below) (hIC.later hO9.below)) (fun e42 w43 hp44 => ?_)
  obtain ⟨p9, v9, c9, rfl, hp9, hr9, hOz⟩ := hp44
  refine ⟨_, rfl, ?_⟩
  have hO45 := hO9.join hOz
  refine rl_v rfl rfl rfl (ov_move rfl rfl) ?_
  refine rl_v rfl rfl rfl (ov_extract rfl rfl (by rfl)) ?_
  refine rl_v rfl rfl rfl (ov_extract rfl rfl (by rfl)) ?_
  refine rl_v rfl rfl rfl (ov_assign rfl rfl) ?_
  refine rl_v rfl rfl rfl (ov_assign rfl rfl) ?_
  refine rl_nil ?_
  refine run_seq ?_
  refine run_region ?_
  refine rl_v rfl rfl rfl (ov_loadW rfl Try.underlying37 rfl (by kernel_rfl) rfl hO45 3 rfl) ?_
  refine rl_call callable_34 rfl rfl rfl rfl rfl rfl (worths_any to tx n tc xc D cash _ hv hc6 (hIT.later hO45.below) (hIC.later hO45.below)) (fun e46 w47 hp48 => ?_)
  obtain ⟨p11, v11, c11, rfl, hp11, hr11, hO11⟩ := hp48
  refine ⟨_, rfl, ?_⟩
  have hO49 := hO45.join hO11
  refine rl_v rfl rfl rfl (ov_move rfl rfl) ?_
  refine rl_v rfl rfl rfl (ov_extract rfl rfl (by rfl)) ?_
  refine rl_v rfl rfl rfl (ov_extract rfl rfl (by rfl)) ?_
  refine rl_v rfl rfl rfl (ov_assign rfl rfl) ?_
  refine rl_v rfl rfl rfl (ov_assign rfl rfl) ?_
  refine rl_nil ?_
  refine run_seq ?_
  refine run_region ?_
  refine rl_v rfl rfl rfl (ov_loadW rfl Try.underlying37 rfl (by kernel_rfl) rfl hO49 4 rfl) ?_
  refine rl_call callable_35 rfl rfl rfl rfl rfl rfl (waves_any to tx n tc xc D cash _ hv hc6 (hIT.later hO49.below) (hIC.later hO49.below)) (fun e50 w51 hp52 => ?_)
  obtain ⟨K, v13, H13, rfl, hK, hKn, hT13, hO13⟩ := hp52
  refine ⟨_, rfl, ?_⟩
  have hO53 := hO49.join hO13
  obtain ⟨a6, x6, rfl⟩ := hr6.val
  obtain ⟨a8, x8, rfl⟩ := hr8.val
  obtain ⟨a9, x9, rfl⟩ := hr9.val
  obtain ⟨a11, x11, rfl⟩ := hr11.val
  obtain ⟨a13, x13, rfl⟩ := hT13.val
  have hO14 := hO53.perm (H' := c11 :: c9 :: c8 :: c6 :: some (lch b4 37 [.slice to n tc, .slice tx n xc]) :: some (lch b3 35 [.slice to n tc, .slice tx n xc]) :: H13) List.perm_append_comm
  obtain ⟨qb, qo, hca, hcash'⟩ := hIC.open
  have hflg : flg n D p9 = flg n D q := flg_congr (hp9.uniq hq)
  have hlen9 : (flg n D p9).length ≤ n := pk_len _ _
  refine rl_v rfl rfl rfl (ov_move rfl rfl) ?_
  refine rl_v rfl rfl rfl (ov_extract rfl rfl (by rfl)) ?_
  refine rl_v rfl rfl rfl (ov_extract rfl rfl (by rfl)) ?_
  refine rl_v rfl rfl rfl (ov_assign rfl rfl) ?_
  refine rl_v rfl rfl rfl (ov_assign rfl rfl) ?_
  refine rl_nil ?_
  refine run_seq ?_
  refine run_seq ?_
  refine run_region ?_
  refine rl_v rfl rfl rfl (ov_move rfl rfl) ?_
  refine rl_v rfl rfl rfl (ov_neq rfl rfl rfl) ?_
  refine rl_v rfl rfl rfl (ov_move rfl rfl) ?_
  first | refine rl_split_dec 52 rfl (fun g1 => ?_) (fun g1 => ?_) | refine rl_split 52 rfl (fun g1 => ?_) (fun g1 => ?_)
  · refine rl_gskip rfl rfl rfl rfl rfl rfl ?_
    refine rl_gskip rfl rfl rfl rfl rfl rfl ?_
    refine rl_v rfl rfl rfl (ov_pick_t rfl rfl rfl) ?_
    refine rl_v rfl rfl rfl (ov_move rfl rfl) ?_
    refine rl_gskip rfl rfl rfl rfl rfl rfl ?_
    refine rl_gskip rfl rfl rfl rfl rfl rfl ?_
    refine rl_v rfl rfl rfl (ov_pick_t rfl rfl rfl) ?_
    refine rl_v rfl rfl rfl (ov_move rfl rfl) ?_
    refine rl_gskip rfl rfl rfl rfl rfl rfl ?_
    refine rl_gskip rfl rfl rfl rfl rfl rfl ?_
    refine rl_v rfl rfl rfl (ov_pick_t rfl rfl rfl) ?_
    refine rl_v rfl rfl rfl (ov_move rfl rfl) ?_
    refine rl_gskip rfl rfl rfl rfl rfl rfl ?_
    refine rl_gskip rfl rfl rfl rfl rfl rfl ?_
    refine rl_gskip rfl rfl rfl rfl rfl rfl ?_
    refine rl_gskip rfl rfl rfl rfl rfl rfl ?_
    refine rl_v rfl rfl rfl (ov_pick_t rfl rfl rfl) ?_
    refine rl_v rfl rfl rfl (ov_move rfl rfl) ?_
    refine rl_gskip rfl rfl rfl rfl rfl rfl ?_
    refine rl_gskip rfl rfl rfl rfl rfl rfl ?_
    refine rl_gskip rfl rfl rfl rfl rfl rfl ?_
    refine rl_gskip rfl rfl rfl rfl rfl rfl ?_
    refine rl_gskip rfl rfl rfl rfl rfl rfl ?_
    refine rl_v rfl rfl rfl (ov_pick_t rfl rfl rfl) ?_
    refine rl_v rfl rfl rfl (ov_move rfl rfl) ?_
    refine rl_gskip rfl rfl rfl rfl rfl rfl ?_
    refine rl_gskip rfl rfl rfl rfl rfl rfl ?_
    refine rl_gskip rfl rfl rfl rfl rfl rfl ?_
    refine rl_gskip rfl rfl rfl rfl rfl rfl ?_
    refine rl_v rfl rfl rfl (ov_pick_t rfl rfl rfl) ?_
    refine rl_nil ?_
    refine run_cond_t rfl ?_
    exfalso; exact g1 rfl
  · refine rl_gv rfl rfl rfl rfl rfl (ov_move rfl rfl) ?_
    refine rl_gv rfl rfl rfl rfl rfl (ov_neq rfl rfl rfl) ?_
    refine rl_v rfl rfl rfl (ov_pick_f rfl rfl rfl) ?_
    refine rl_v rfl rfl rfl (ov_move rfl rfl) ?_
    first | refine rl_split_dec 56 rfl (fun g2 => ?_) (fun g2 => ?_) | refine rl_split 56 rfl (fun g2 => ?_) (fun g2 => ?_)
    · refine rl_gskip rfl rfl rfl rfl rfl rfl ?_
      refine rl_gskip rfl rfl rfl rfl rfl rfl ?_
      refine rl_v rfl rfl rfl (ov_pick_t rfl rfl rfl) ?_
      refine rl_v rfl rfl rfl (ov_move rfl rfl) ?_
      refine rl_gskip rfl rfl rfl rfl rfl rfl ?_
      refine rl_gskip rfl rfl rfl rfl rfl rfl ?_
      refine rl_v rfl rfl rfl (ov_pick_t rfl rfl rfl) ?_
      refine rl_v rfl rfl rfl (ov_move rfl rfl) ?_
      refine rl_gskip rfl rfl rfl rfl rfl rfl ?_
      refine rl_gskip rfl rfl rfl rfl rfl rfl ?_
      refine rl_gskip rfl rfl rfl rfl rfl rfl ?_
      refine rl_gskip rfl rfl rfl rfl rfl rfl ?_
      refine rl_v rfl rfl rfl (ov_pick_t rfl rfl rfl) ?_
      refine rl_v rfl rfl rfl (ov_move rfl rfl) ?_
      refine rl_gskip rfl rfl rfl rfl rfl rfl ?_
      refine rl_gskip rfl rfl rfl rfl rfl rfl ?_
      refine rl_gskip rfl rfl rfl rfl rfl rfl ?_
      refine rl_gskip rfl rfl rfl rfl rfl rfl ?_
      refine rl_gskip rfl rfl rfl rfl rfl rfl ?_
      refine rl_v rfl rfl rfl (ov_pick_t rfl rfl rfl) ?_
      refine rl_v rfl rfl rfl (ov_move rfl rfl) ?_
      refine rl_gskip rfl rfl rfl rfl rfl rfl ?_
      refine rl_gskip rfl rfl rfl rfl rfl rfl ?_
      refine rl_gskip rfl rfl rfl rfl rfl rfl ?_
      refine rl_gskip rfl rfl rfl rfl rfl rfl ?_
      refine rl_v rfl rfl rfl (ov_pick_t rfl rfl rfl) ?_
      refine rl_nil ?_
      refine run_cond_t rfl ?_
      exfalso; exact g2 rfl
    · refine rl_gv rfl rfl rfl rfl rfl (ov_move rfl rfl) ?_
      refine rl_gv rfl rfl rfl rfl rfl (ov_neq rfl rfl rfl) ?_
      refine rl_v rfl rfl rfl (ov_pick_f rfl rfl rfl) ?_
      refine rl_v rfl rfl rfl (ov_move rfl rfl) ?_
      first | refine rl_split_dec 60 rfl (fun g3 => ?_) (fun g3 => ?_) | refine rl_split 60 rfl (fun g3 => ?_) (fun g3 => ?_)
      · refine rl_gskip rfl rfl rfl rfl rfl rfl ?_
        refine rl_gskip rfl rfl rfl rfl rfl rfl ?_
        refine rl_v rfl rfl rfl (ov_pick_t rfl rfl rfl) ?_
        refine rl_v rfl rfl rfl (ov_move rfl rfl) ?_
        refine rl_gskip rfl rfl rfl rfl rfl rfl ?_
        refine rl_gskip rfl rfl rfl rfl rfl rfl ?_
        refine rl_gskip rfl rfl rfl rfl rfl rfl ?_
        refine rl_gskip rfl rfl rfl rfl rfl rfl ?_
        refine rl_v rfl rfl rfl (ov_pick_t rfl rfl rfl) ?_
        refine rl_v rfl rfl rfl (ov_move rfl rfl) ?_
        refine rl_gskip rfl rfl rfl rfl rfl rfl ?_
        refine rl_gskip rfl rfl rfl rfl rfl rfl ?_
        refine rl_gskip rfl rfl rfl rfl rfl rfl ?_
        refine rl_gskip rfl rfl rfl rfl rfl rfl ?_
        refine rl_gskip rfl rfl rfl rfl rfl rfl ?_
        refine rl_v rfl rfl rfl (ov_pick_t rfl rfl rfl) ?_
        refine rl_v rfl rfl rfl (ov_move rfl rfl) ?_
        refine rl_gskip rfl rfl rfl rfl rfl rfl ?_
        refine rl_gskip rfl rfl rfl rfl rfl rfl ?_
        refine rl_gskip rfl rfl rfl rfl rfl rfl ?_
        refine rl_gskip rfl rfl rfl rfl rfl rfl ?_
        refine rl_v rfl rfl rfl (ov_pick_t rfl rfl rfl) ?_
        refine rl_nil ?_
        refine run_cond_t rfl ?_
        exfalso; exact g3 rfl
      · refine rl_gv rfl rfl rfl rfl rfl (ov_move rfl rfl) ?_
        refine rl_gv rfl rfl rfl rfl rfl (ov_neq rfl rfl rfl) ?_
        refine rl_v rfl rfl rfl (ov_pick_f rfl rfl rfl) ?_
        refine rl_v rfl rfl rfl (ov_move rfl rfl) ?_
        first | refine rl_split_dec 64 rfl (fun g4 => ?_) (fun g4 => ?_) | refine rl_split 64 rfl (fun g4 => ?_) (fun g4 => ?_)
        · refine rl_gskip rfl rfl rfl rfl rfl rfl ?_
          refine rl_gskip rfl rfl rfl rfl rfl rfl ?_
          refine rl_gskip rfl rfl rfl rfl rfl rfl ?_
          refine rl_gskip rfl rfl rfl rfl rfl rfl ?_
          refine rl_v rfl rfl rfl (ov_pick_t rfl rfl rfl) ?_
          refine rl_v rfl rfl rfl (ov_move rfl rfl) ?_
          refine rl_gskip rfl rfl rfl rfl rfl rfl ?_
          refine rl_gskip rfl rfl rfl rfl rfl rfl ?_
          refine rl_gskip rfl rfl rfl rfl rfl rfl ?_
          refine rl_gskip rfl rfl rfl rfl rfl rfl ?_
          refine rl_gskip rfl rfl rfl rfl rfl rfl ?_
          refine rl_v rfl rfl rfl (ov_pick_t rfl rfl rfl) ?_
          refine rl_v rfl rfl rfl (ov_move rfl rfl) ?_
          refine rl_gskip rfl rfl rfl rfl rfl rfl ?_
          refine rl_gskip rfl rfl rfl rfl rfl rfl ?_
          refine rl_gskip rfl rfl rfl rfl rfl rfl ?_
          refine rl_gskip rfl rfl rfl rfl rfl rfl ?_
          refine rl_v rfl rfl rfl (ov_pick_t rfl rfl rfl) ?_
          refine rl_nil ?_
          refine run_cond_t rfl ?_
          exfalso; exact g4 rfl
        · refine rl_gv rfl rfl rfl rfl rfl (ov_move rfl rfl) ?_
          refine rl_gv rfl rfl rfl rfl rfl (ov_move rfl rfl) ?_
          refine rl_gcall callable_23 rfl rfl rfl rfl rfl rfl rfl rfl (longs_any a6 a8 n x6 n x8 p q _ (by omega) (hr6.reads hO14 3 rfl) (hr8.reads hO14 2 rfl)) (fun e58 w59 hp60 => ?_)
          obtain ⟨⟨bl, rfl, hbl⟩, hb1⟩ := hp60
          refine ⟨_, rfl, ?_⟩
          have hO61 := hO14.past hb1
          obtain rfl : bl = true := hbl.2 ⟨rfl, hp.uniq hq⟩
          refine rl_gv rfl rfl rfl rfl rfl (ov_not rfl rfl) ?_
          refine rl_v rfl rfl rfl (ov_pick_f rfl rfl rfl) ?_
          refine rl_v rfl rfl rfl (ov_move rfl rfl) ?_
          first | refine rl_split_dec 70 rfl (fun g5 => ?_) (fun g5 => ?_) | refine rl_split 70 rfl (fun g5 => ?_) (fun g5 => ?_)
          · refine rl_gskip rfl rfl rfl rfl rfl rfl ?_
            refine rl_gskip rfl rfl rfl rfl rfl rfl ?_
            refine rl_gskip rfl rfl rfl rfl rfl rfl ?_
            refine rl_gskip rfl rfl rfl rfl rfl rfl ?_
            refine rl_gskip rfl rfl rfl rfl rfl rfl ?_
            refine rl_v rfl rfl rfl (ov_pick_t rfl rfl rfl) ?_
            refine rl_v rfl rfl rfl (ov_move rfl rfl) ?_
            refine rl_gskip rfl rfl rfl rfl rfl rfl ?_
            refine rl_gskip rfl rfl rfl rfl rfl rfl ?_
            refine rl_gskip rfl rfl rfl rfl rfl rfl ?_
            refine rl_gskip rfl rfl rfl rfl rfl rfl ?_
            refine rl_v rfl rfl rfl (ov_pick_t rfl rfl rfl) ?_
            refine rl_nil ?_
            refine run_cond_t rfl ?_
            exfalso; cases g5
          · refine rl_gv rfl rfl rfl rfl rfl (ov_move rfl rfl) ?_
            refine rl_gv rfl rfl rfl rfl rfl (ov_loadW rfl Try.underlying35 rfl (by kernel_rfl) rfl hO61 5 rfl) ?_
            refine rl_gcall callable_37 rfl rfl rfl rfl rfl rfl rfl rfl (refFailing_any to tx n tc xc D cash _ hv (fun i i0 i1 => by have := hcash i; omega) (hIT.later hO61.below) (hIC.later hO61.below)) (fun e63 w64 hp65 => ?_)
            obtain ⟨p5, v5, c5, rfl, hp5, hr5, hO5⟩ := hp65
            refine ⟨_, rfl, ?_⟩
            have hO66 := hO61.join hO5
            obtain ⟨a5, x5, rfl⟩ := hr5.val
            have hflg2 : flg n D p9 = flg n D p5 := flg_congr (hp9.uniq hp5)
            refine rl_gcall callable_36 rfl rfl rfl rfl rfl rfl rfl rfl (ints_any a9 a5 (flg n D p9).length x9 (flg n D p5).length x5 (lF (flg n D p9)) (lF (flg n D p5)) _ (by omega) (hr9.reads hO66 2 rfl) (hr5.reads hO66 0 rfl)) (fun e67 w68 hp69 => ?_)
            obtain ⟨⟨bi, rfl, hbi⟩, hb2⟩ := hp69
            refine ⟨_, rfl, ?_⟩
            have hO70 := hO66.past hb2
            obtain rfl : bi = true := hbi.2 ⟨by rw [hflg2], fun i _ _ => by rw [hflg2]⟩
            refine rl_gv rfl rfl rfl rfl rfl (ov_not rfl rfl) ?_
            refine rl_v rfl rfl rfl (ov_pick_f rfl rfl rfl) ?_
            refine rl_v rfl rfl rfl (ov_move rfl rfl) ?_
            first | refine rl_split_dec 77 rfl (fun g6 => ?_) (fun g6 => ?_) | refine rl_split 77 rfl (fun g6 => ?_) (fun g6 => ?_)
            · refine rl_gskip rfl rfl rfl rfl rfl rfl ?_
              refine rl_gskip rfl rfl rfl rfl rfl rfl ?_
              refine rl_gskip rfl rfl rfl rfl rfl rfl ?_
              refine rl_gskip rfl rfl rfl rfl rfl rfl ?_
              refine rl_v rfl rfl rfl (ov_pick_t rfl rfl rfl) ?_
              refine rl_nil ?_
              refine run_cond_t rfl ?_
              exfalso; cases g6
            · refine rl_gv rfl rfl rfl rfl rfl (ov_move rfl rfl) ?_
              refine rl_gv rfl rfl rfl rfl rfl (ov_len rfl Try.underlying23 rfl) ?_
              refine rl_gv rfl rfl rfl rfl rfl (ov_move rfl rfl) ?_
              refine rl_gv rfl rfl rfl rfl rfl (ov_neq rfl rfl rfl) ?_
              refine rl_v rfl rfl rfl (ov_pick_f rfl rfl rfl) ?_
              refine rl_nil ?_
              first | refine run_cond_dec rfl (fun h7 => ?_) (fun h7 => ?_) | refine run_cond rfl (fun h7 => ?_) (fun h7 => ?_)
              · exfalso; exact h7 rfl
              · refine run_skip ?_
                refine run_seq ?_
                refine run_region ?_
                refine rl_v rfl rfl rfl (ov_fieldS rfl Try.underlying35 rfl (fo := 0) rfl (by kernel_rfl) rfl) ?_
                refine rl_v rfl rfl rfl (ov_load rfl Try.underlying22 rfl rfl (by first | exact hO70.cellL 6 rfl rfl)) ?_
                refine rl_v rfl rfl rfl (ov_move rfl rfl) ?_
                refine rl_call callable_24 rfl rfl rfl rfl rfl rfl (refReceived_any to a8 n tc n x8 D q _ hv (Nat.le_refl _) hq.rng (hIT.later hO70.below) (hr8.reads hO70 3 rfl)) (fun e72 w73 hp74 => ?_)
                obtain ⟨b15, rfl, hO15⟩ := hp74
                refine ⟨_, rfl, ?_⟩
                have hO75 := hO70.join hO15
                obtain ⟨b8, G8, rfl, hq81, hq82, rfl, hG8⟩ := hr8.asV hn1
                obtain ⟨b11, G11, rfl, hq111, hq112, rfl, hG11⟩ := hr11.asV hn1
                have hO16 := hO75.sub (H' := some (vch b15 2 n (fun i => .int .i64 (rcv n D q i))) :: some (vch b11 2 x11 G11) :: some (vch b8 2 x8 G8) :: some (lch b3 35 [.slice to n tc, .slice tx n xc]) :: H13) (.cons_cons _ (.cons _ (.cons_cons _ (.cons _ (.cons_cons _ (.cons _ (.cons _ (.cons_cons _ (.refl _)))))))))
                refine rl_v rfl rfl rfl (ov_assign rfl rfl) ?_
                refine rl_nil ?_
                refine run_seq ?_
                refine run_seq ?_
                refine run_region ?_
                refine rl_v rfl rfl rfl (ov_assign rfl rfl) ?_
                refine rl_nil ?_
                refine run_block ?_
                refine Run.keep [3, 5, 8, 11, 13, 15, 16] (F' := [(3, _), (5, _), (8, _), (11, _), (13, _), (15, _), (16, _)]) rfl ?_
                refine run_loop1 (fun (k : Int) => [(16, .int .i64 k)]) [3, 5, 8, 11, 13, 15] (fun (k : Int) (w76 : World) => 0 ≤ k ∧ k ≤ n ∧ Own w5.heap.size w5 w76 (some (vch b15 2 n (fun i => .int .i64 (rcv n D q i))) :: some (vch b11 2 x11 G11) :: some (vch b8 2 x8 G8) :: some (lch b3 35 [.slice to n tc, .slice tx n xc]) :: H13)) (fun (k : Int) => ((n : Int) - k).toNat) (0) ?_ (And.intro (by first | with_reducible rfl | exact slot_int rfl (by first | omega) | rfl) (And.intro rfl (And.intro rfl (And.intro rfl (And.intro rfl (And.intro rfl (And.intro rfl trivial))))))) ?_
                · exact ⟨by omega, by omega, hO16⟩
                intro k w76 hIw76 ih77
                obtain ⟨hk0, hk1, hO⟩ := hIw76
                show Run _ _ _ _ [(16, _), (3, _), (5, _), (8, _), (11, _), (13, _), (15, _)] _ _
                refine run_seq ?_
                refine run_seq ?_
                refine run_region ?_
                refine rl_v rfl rfl rfl (ov_move rfl rfl) ?_
                refine rl_v rfl rfl rfl (ov_move rfl rfl) ?_
                refine rl_v rfl rfl rfl (ov_lss rfl rfl rfl) ?_
                refine rl_nil ?_
                first | refine run_cond_dec rfl (fun h8 => ?_) (fun h8 => ?_) | refine run_cond rfl (fun h8 => ?_) (fun h8 => ?_)
                · have hck := hcash k
                  have hrr := rcv_rng hv q hq.rng k
                  have hqr := hq.rng k hk0 h8
                  have hor := ow_rng hv k
                  refine run_skip ?_
                  refine run_seq ?_
                  refine run_block ?_
                  refine run_seq ?_
                  refine run_quiet mixed (by kernel_rfl) ?_
                  refine rq_v rfl rfl rfl (fun _ => ov_move rfl rfl) ?_
                  refine rq_v rfl rfl rfl (fun _ => ov_move rfl rfl) ?_
                  refine rq_v rfl rfl rfl (fun _ => ov_index1 rfl Try.underlying23 (by kernel_rfl) rfl rfl ⟨by omega, by omega⟩ (by first | rfl | exact hca (by omega))) ?_
                  refine rq_v rfl rfl rfl (fun _ => ov_load rfl Try.underlying2 rfl rfl (by show World.cell? w76 _ = _; first | exact (hO.cellI 1 rfl k hk0 (by omega)).trans (congrArg some (hG11 k hk0 h8)))) ?_
                  refine rq_v rfl rfl rfl (fun _ => ov_fieldS rfl Try.underlying35 rfl (fo := 1) rfl (by kernel_rfl) rfl) ?_
                  refine rq_v rfl rfl rfl (fun _ => ov_load rfl Try.underlying23 rfl rfl (by show World.cell? w76 _ = _; first | exact hcash' _ hO.below _ (by omega) (by omega) | exact hO.cellI 0 rfl _ (by omega) (by omega) | exact hO.cellL 0 rfl rfl | exact hO.cellI 1 rfl _ (by omega) (by omega) | exact hO.cellL 1 rfl rfl | exact hO.cellI 2 rfl _ (by omega) (by omega) | exact hO.cellL 2 rfl rfl | exact hO.cellI 3 rfl _ (by omega) (by omega) | exact hO.cellL 3 rfl rfl | exact hO.cellI 4 rfl _ (by omega) (by omega) | exact hO.cellL 4 rfl rfl | exact hO.cellI 5 rfl _ (by omega) (by omega) | exact hO.cellL 5 rfl rfl)) ?_
                  refine rq_v rfl rfl rfl (fun _ => ov_move rfl rfl) ?_
                  refine rq_v rfl rfl rfl (fun _ => ov_index1 rfl Try.underlying23 (by kernel_rfl) rfl rfl ⟨by omega, by omega⟩ (by first | rfl | exact hca (by omega))) ?_
                  refine rq_v rfl rfl rfl (fun _ => ov_load rfl Try.underlying2 rfl rfl (by show World.cell? w76 _ = _; first | exact hcash' _ hO.below _ (by omega) (by omega) | exact hO.cellI 0 rfl _ (by omega) (by omega) | exact hO.cellL 0 rfl rfl | exact hO.cellI 1 rfl _ (by omega) (by omega) | exact hO.cellL 1 rfl rfl | exact hO.cellI 2 rfl _ (by omega) (by omega) | exact hO.cellL 2 rfl rfl | exact hO.cellI 3 rfl _ (by omega) (by omega) | exact hO.cellL 3 rfl rfl | exact hO.cellI 4 rfl _ (by omega) (by omega) | exact hO.cellL 4 rfl rfl | exact hO.cellI 5 rfl _ (by omega) (by omega) | exact hO.cellL 5 rfl rfl)) ?_
                  refine rq_v rfl rfl rfl (fun _ => ov_move rfl rfl) ?_
                  refine rq_v rfl rfl rfl (fun _ => ov_move rfl rfl) ?_
                  refine rq_v rfl rfl rfl (fun _ => ov_index1 rfl Try.underlying23 (by kernel_rfl) rfl rfl ⟨by omega, by omega⟩ (by first | rfl | exact hca (by omega))) ?_
                  refine rq_v rfl rfl rfl (fun _ => ov_load rfl Try.underlying2 rfl rfl (by show World.cell? w76 _ = _; first | exact hO.cellI 0 rfl k hk0 (by omega))) ?_
                  refine rq_v rfl rfl rfl (fun _ => ov_add rfl rfl rfl (by omega)) ?_
                  refine rq_v rfl rfl rfl (fun _ => ov_move rfl rfl) ?_
                  refine rq_v rfl rfl rfl (fun _ => ov_move rfl rfl) ?_
                  refine rq_v rfl rfl rfl (fun _ => ov_index1 rfl Try.underlying23 (by kernel_rfl) rfl rfl ⟨by omega, by omega⟩ (by first | rfl | exact hca (by omega))) ?_
                  refine rq_v rfl rfl rfl (fun _ => ov_load rfl Try.underlying2 rfl rfl (by show World.cell? w76 _ = _; first | exact (hO.cellI 2 rfl k hk0 (by omega)).trans (congrArg some (hG8 k hk0 h8)))) ?_
                  refine rq_v rfl rfl rfl (fun _ => ov_sub rfl rfl rfl (by omega)) ?_
                  refine rq_v rfl rfl rfl (fun _ => ov_neq rfl rfl rfl) ?_
                  refine rq_nil (fun n78 => ?_)
                  have hO80 := hO.drewN n78
                  generalize World.drewN w76 n78 = w79 at hO80 ⊢
                  first | refine run_cond_dec rfl (fun h9 => ?_) (fun h9 => ?_) | refine run_cond rfl (fun h9 => ?_) (fun h9 => ?_)
                  · exfalso; exact h9 (by rw [rcv_congr (hp11.uniq hq) k, hp11.uniq hq k hk0 h8])
                  · refine run_skip ?_
                    refine run_inBlock ?_
                    refine run_region ?_
                    refine rl_v rfl rfl rfl (ov_move rfl rfl) ?_
                    refine rl_v rfl rfl rfl (ov_add rfl rfl rfl (by omega)) ?_
                    refine rl_v rfl rfl rfl (ov_assign rfl rfl) ?_
                    refine rl_nil ?_
                    refine Run.use (ih77 _ _ ?_ ?_) (And.intro (by first | with_reducible rfl | exact slot_int rfl (by first | omega) | rfl) (And.intro rfl (And.intro rfl (And.intro rfl (And.intro rfl (And.intro rfl (And.intro rfl trivial)))))))
                    · first | omega | (dsimp only; omega)
                    · exact ⟨by omega, by omega, hO80⟩
                · refine run_exit rfl ?_
                  refine run_seq ?_
                  refine run_region ?_
                  refine rl_v rfl rfl rfl (ov_loadW rfl Try.underlying35 rfl (by kernel_rfl) rfl hO 3 rfl) ?_
                  refine rl_call callable_38 rfl rfl rfl rfl rfl rfl (refWaves_any to tx n tc xc D cash _ hv hc6 (hIT.later hO.below) (hIC.later hO.below)) (fun e81 w82 hp83 => ?_)
                  obtain ⟨K', v17, H17, rfl, hK', hKn', hT17, hO17⟩ := hp83
                  refine ⟨_, rfl, ?_⟩
                  have hO84 := hO.join hO17
                  obtain rfl : K' = K := hK'.uniq hK
                  obtain ⟨a17, x17, rfl⟩ := hT17.val
                  have hI17 := hT17.reads hO84
                  have hI13 := hT13.reads (H' := []) (by rw [List.append_nil]; exact hO84.sub ((List.sublist_append_right [some (vch b15 2 n (fun i => .int .i64 (rcv n D q i))), some (vch b11 2 x11 G11), some (vch b8 2 x8 G8), some (lch b3 35 [.slice to n tc, .slice tx n xc])] H13).trans (List.sublist_append_right H17 _)))
                  have hOF := hOA.join hO84
                  refine rl_v rfl rfl rfl (ov_assign rfl rfl) ?_
                  refine rl_nil ?_
                  refine run_seq ?_
                  refine run_seq ?_
                  refine run_region ?_
                  refine rl_v rfl rfl rfl (ov_move rfl rfl) ?_
                  refine rl_v rfl rfl rfl (ov_len rfl Try.underlying58 rfl) ?_
                  refine rl_v rfl rfl rfl (ov_move rfl rfl) ?_
                  refine rl_v rfl rfl rfl (ov_len rfl Try.underlying58 rfl) ?_
                  refine rl_v rfl rfl rfl (ov_neq rfl rfl rfl) ?_
                  refine rl_nil ?_
                  first | refine run_cond_dec rfl (fun h10 => ?_) (fun h10 => ?_) | refine run_cond rfl (fun h10 => ?_) (fun h10 => ?_)
                  · exfalso; exact h10 rfl
                  · have hIz := Own.init w82
                    obtain ⟨A1, C1, RB1, RO1, gb1, go1, hga1, hrow1, hra1, hel1, hri1⟩ := hI13.open
                    obtain ⟨A2, C2, RB2, RO2, gb2, go2, hga2, hrow2, hra2, hel2, hri2⟩ := hI17.open
                    refine run_skip ?_
                    refine run_seq ?_
                    refine run_seq ?_
                    refine run_region ?_
                    refine rl_v rfl rfl rfl (ov_assign rfl rfl) ?_
                    refine rl_nil ?_
                    refine run_block ?_
                    refine Run.keep [13, 17, 18] (F' := [(13, _), (17, _), (18, _)]) rfl ?_
                    refine run_loop1 (fun (k : Int) => [(18, .int .i64 k)]) [13, 17] (fun (k : Int) (w85 : World) => 0 ≤ k ∧ k ≤ K' ∧ Own w82.heap.size w82 w85 []) (fun (k : Int) => ((K' : Int) - k).toNat) (0) ?_ (And.intro (by first | with_reducible rfl | exact slot_int rfl (by first | omega) | rfl) (And.intro rfl (And.intro rfl trivial))) ?_
                    · exact ⟨by omega, by omega, hIz⟩
                    intro k w85 hIw85 ih86
                    obtain ⟨hk0, hk1, hO⟩ := hIw85
                    show Run _ _ _ _ [(18, _), (13, _), (17, _)] _ _
                    refine run_seq ?_
                    refine run_seq ?_
                    refine run_region ?_
                    refine rl_v rfl rfl rfl (ov_move rfl rfl) ?_
                    refine rl_v rfl rfl rfl (ov_move rfl rfl) ?_
                    refine rl_v rfl rfl rfl (ov_len rfl Try.underlying58 rfl) ?_
                    refine rl_v rfl rfl rfl (ov_lss rfl rfl rfl) ?_
                    refine rl_nil ?_
                    first | refine run_cond_dec rfl (fun h11 => ?_) (fun h11 => ?_) | refine run_cond rfl (fun h11 => ?_) (fun h11 => ?_)
                    · have hlk : (wv n D cash k.toNat).length ≤ n := pk_len _ _
                      refine run_skip ?_
                      refine run_seq ?_
                      refine run_block ?_
                      refine run_seq ?_
                      refine run_tail 8 mixed (by kernel_rfl) ?_
                      have hO88 := hO.drew
                      generalize World.drew w85 = w87 at hO88 ⊢
                      refine rt_v rfl rfl rfl (ov_move rfl rfl) ?_
                      refine rt_v rfl rfl rfl (ov_move rfl rfl) ?_
                      refine rt_v rfl rfl rfl (ov_index1 rfl Try.underlying58 (by kernel_rfl) rfl rfl ⟨by omega, by omega⟩ (by first | rfl | exact hga1 (by omega) | exact hga2 (by omega))) ?_
                      refine rt_v rfl rfl rfl (ov_load rfl Try.underlying55 rfl rfl (by first | exact hrow1 _ hO88.below _ (by omega) (by omega) | exact hrow2 _ hO88.below _ (by omega) (by omega) | exact hO88.cellI 0 rfl _ (by omega) (by omega) | exact hO88.cellL 0 rfl rfl | exact hO88.cellI 1 rfl _ (by omega) (by omega) | exact hO88.cellL 1 rfl rfl | exact hO88.cellI 2 rfl _ (by omega) (by omega) | exact hO88.cellL 2 rfl rfl | exact hO88.cellI 3 rfl _ (by omega) (by omega) | exact hO88.cellL 3 rfl rfl | exact hO88.cellI 4 rfl _ (by omega) (by omega) | exact hO88.cellL 4 rfl rfl | exact hO88.cellI 5 rfl _ (by omega) (by omega) | exact hO88.cellL 5 rfl rfl)) ?_
                      refine rt_v rfl rfl rfl (ov_move rfl rfl) ?_
                      refine rt_v rfl rfl rfl (ov_move rfl rfl) ?_
                      refine rt_v rfl rfl rfl (ov_index1 rfl Try.underlying58 (by kernel_rfl) rfl rfl ⟨by omega, by omega⟩ (by first | rfl | exact hga1 (by omega) | exact hga2 (by omega))) ?_
                      refine rt_v rfl rfl rfl (ov_load rfl Try.underlying55 rfl rfl (by first | exact hrow1 _ hO88.below _ (by omega) (by omega) | exact hrow2 _ hO88.below _ (by omega) (by omega) | exact hO88.cellI 0 rfl _ (by omega) (by omega) | exact hO88.cellL 0 rfl rfl | exact hO88.cellI 1 rfl _ (by omega) (by omega) | exact hO88.cellL 1 rfl rfl | exact hO88.cellI 2 rfl _ (by omega) (by omega) | exact hO88.cellL 2 rfl rfl | exact hO88.cellI 3 rfl _ (by omega) (by omega) | exact hO88.cellL 3 rfl rfl | exact hO88.cellI 4 rfl _ (by omega) (by omega) | exact hO88.cellL 4 rfl rfl | exact hO88.cellI 5 rfl _ (by omega) (by omega) | exact hO88.cellL 5 rfl rfl)) ?_
                      refine rt_nil ?_
                      refine rl_call callable_36 rfl rfl rfl rfl rfl rfl (ints_any (A1 k) (A2 k) (wv n D cash k.toNat).length (C1 k) (wv n D cash k.toNat).length (C2 k) (lF (wv n D cash k.toNat)) (lF (wv n D cash k.toNat)) _ (by omega) ((hri1 k hk0 h11).later hO88.below) ((hri2 k hk0 h11).later hO88.below)) (fun e89 w90 hp91 => ?_)
                      obtain ⟨⟨bi, rfl, hbi⟩, hb3⟩ := hp91
                      refine ⟨_, rfl, ?_⟩
                      have hO92 := hO88.past hb3
                      obtain rfl : bi = true := hbi.2 ⟨rfl, fun _ _ _ => rfl⟩
                      refine rl_v rfl rfl rfl (ov_not rfl rfl) ?_
                      refine rl_nil ?_
                      first | refine run_cond_dec rfl (fun h12 => ?_) (fun h12 => ?_) | refine run_cond rfl (fun h12 => ?_) (fun h12 => ?_)
                      · exfalso; cases h12
                      · refine run_skip ?_
                        refine run_inBlock ?_
                        refine run_region ?_
                        refine rl_v rfl rfl rfl (ov_move rfl rfl) ?_
                        refine rl_v rfl rfl rfl (ov_add rfl rfl rfl (by omega)) ?_
                        refine rl_v rfl rfl rfl (ov_assign rfl rfl) ?_
                        refine rl_nil ?_
                        refine Run.use (ih86 _ _ ?_ ?_) (And.intro (by first | with_reducible rfl | exact slot_int rfl (by first | omega) | rfl) (And.intro rfl (And.intro rfl trivial)))
                        · first | omega | (dsimp only; omega)
                        · exact ⟨by omega, by omega, hO92⟩
                    · refine run_exit rfl ?_
                      refine run_seq ?_
                      refine run_region ?_
                      refine rl_call callable_18 rfl rfl rfl rfl rfl rfl (awake_any _) (fun e93 w94 hp95 => ?_)
                      obtain ⟨rfl, hb⟩ := hp95
                      refine ⟨_, rfl, ?_⟩
                      have hO96 := hO.past hb
                      refine rl_v rfl rfl rfl (ov_assign rfl rfl) ?_
                      refine rl_nil ?_
                      refine run_ret Try.func6 (res1 Try.results6 rfl) ?_
                      exact ⟨rfl, (hOF.join hO96).below⟩
end Go.Proofs.Ytiambddcpflkhaa
