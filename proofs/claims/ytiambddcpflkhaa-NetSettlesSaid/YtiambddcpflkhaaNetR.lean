/- Crises: who fails: the reference's Failing and Fails; the program's failing, Failing, Rescue. -/
import Derived.Test.YtiambddcpflkhaaNetP
set_option maxRecDepth 100000
namespace Go.Proofs.Ytiambddcpflkhaa
open Go.RowKit Go.Proofs

theorem row_snoc {v : Value} {T : TypeId} {l : List Int} {x : Int} {c : Option Blk} (h : IRow v T (l.length + 1) (fun i => .int .i64 (upd (lF l) l.length x i)) c) : IRow v T (l ++ [x]).length (fun i => .int .i64 (lF (l ++ [x]) i)) c := by
  rw [List.length_append, List.length_singleton]
  exact h.congr fun j j0 j1 => by rw [lF_snoc l x j j0 j1]
theorem row_is {v : Value} {T : TypeId} {l l' : List Int} {c : Option Blk} (h : IRow v T l.length (fun i => .int .i64 (lF l i)) c) (e : l = l') : IRow v T l'.length (fun i => .int .i64 (lF l' i)) c := e ▸ h

theorem failing_any (ao : Option Addr) (n c : Nat) (D : Int → Int → Int) (cash : Value) (p : Int → Int) (w : World) (hv : Valid n D)
    (h : ITab w.heap.size w ao n (fun _ => n) (fun r c => .int .i64 (D r c))) :
    Calls Try.prog 72 #[.agg [.slice ao n c, cash].toArray, arrv 32 (fun i => .int .i64 (p i))] w fun e w' => ∃ v c', e = .returned v ∧ IRow v 3 (flg n D p).length (fun j => .int .i64 (lF (flg n D p) j)) c' ∧ Own w.heap.size w w' [c'] := by
  have hle := hv.le
  refine calls_of_run (F := [(0, _), (1, _)]) Try.func72 rfl Try.ntmps72 rfl rfl ?_
  have hO0 := Own.init w
  refine run_seq ?_
  refine run_region ?_
  refine rl_ow rfl (ow_box _ rfl rfl rfl rfl rfl hO0) ?_
  rintro _ w1 ⟨b2, rfl, hO2, hs3⟩
  refine rl_ow rfl (ow_boxA rfl rfl rfl rfl hO2) ?_
  rintro _ w4 ⟨b3, rfl, hO5, hs6⟩
  refine rl_v rfl rfl rfl (ov_assign rfl rfl) ?_
  refine rl_nil ?_
  refine run_seq ?_
  refine run_region ?_
  refine rl_v rfl rfl rfl (ov_loadW rfl Try.underlying37 rfl (by kernel_rfl) rfl hO5 1 rfl) ?_
  refine rl_call callable_68 rfl rfl rfl rfl rfl rfl (owed_any ao n c D cash _ hv (h.later hO5.below)) (fun e7 w8 hp9 => ?_)
  obtain ⟨rfl, hb⟩ := hp9
  refine ⟨_, rfl, ?_⟩
  have hO10 := hO5.past hb
  refine rl_ow rfl (ow_allocA 32 rfl rfl rfl zero_101 rfl hO10) ?_
  rintro _ w11 ⟨b5, rfl, hO12, hs13⟩
  refine rl_ow rfl (ow_storeA rfl rfl (by kernel_rfl) hO12 0 rfl rfl rfl (fun _ => rfl)) ?_
  rintro _ w14 ⟨rfl, hO15, hs16⟩
  have hO9 := hO15.nil_cons
  refine rl_nil ?_
  refine run_seq ?_
  refine run_region ?_
  refine rl_v rfl rfl rfl (ov_assign rfl rfl) ?_
  refine rl_nil ?_
  refine run_seq ?_
  refine run_seq ?_
  refine run_region ?_
  refine rl_v rfl rfl rfl (ov_fieldS rfl Try.underlying37 rfl (fo := 0) rfl (by kernel_rfl) rfl) ?_
  refine rl_v rfl rfl rfl (ov_load rfl Try.underlying22 rfl rfl (by first | exact hO9.cellI 0 rfl _ (by omega) (by omega) | exact hO9.cellL 0 rfl rfl | exact hO9.cellI 1 rfl _ (by omega) (by omega) | exact hO9.cellL 1 rfl rfl | exact hO9.cellI 2 rfl _ (by omega) (by omega) | exact hO9.cellL 2 rfl rfl | exact hO9.cellI 3 rfl _ (by omega) (by omega) | exact hO9.cellL 3 rfl rfl | exact hO9.cellI 4 rfl _ (by omega) (by omega) | exact hO9.cellL 4 rfl rfl | exact hO9.cellI 5 rfl _ (by omega) (by omega) | exact hO9.cellL 5 rfl rfl)) ?_
  refine rl_v rfl rfl rfl (ov_len rfl Try.underlying22 rfl) ?_
  refine rl_v rfl rfl rfl (ov_move rfl rfl) ?_
  refine rl_nil ?_
  refine run_block ?_
  refine Run.keep [3, 5, 6, 12, 13] (F' := [(3, _), (5, _), (6, _), (12, _), (13, _)]) rfl ?_
  refine run_loop3 (fun (k : Int) (v : Value) (cr : Option Blk) => [(13, .int .i64 k), (6, v)]) [3, 5, 12] (fun (k : Int) (v : Value) (cr : Option Blk) (w17 : World) => 0 ≤ k ∧ k ≤ n ∧ IRow v 3 (pk (fun i => decide (p i < ow n D i)) k.toNat).length (fun j => .int .i64 (lF (pk (fun i => decide (p i < ow n D i)) k.toNat) j)) cr ∧ Own w.heap.size w w17 [cr, some (vch b5 101 32 (fun i => .int .i64 (upto n (ow n D) i))), some (vch b3 101 32 (fun i => .int .i64 (p i))), some (lch b2 37 [.slice ao n c, cash])]) (fun (k : Int) (v : Value) (cr : Option Blk) => ((n : Int) - k).toNat) (0) (.slice none 0 0) (none) ?_ (And.intro (by first | with_reducible rfl | exact slot_int rfl (by first | omega) | rfl) (And.intro rfl (And.intro rfl (And.intro rfl (And.intro rfl trivial))))) ?_
  · exact ⟨by omega, by omega, IRow.nil _ _, hO9⟩
  intro k v cr w17 hIw17 ih18
  obtain ⟨hk0, hk1, hr, hO⟩ := hIw17
  show Run _ _ _ _ [(13, _), (6, _), (3, _), (5, _), (12, _)] _ _
  refine run_seq ?_
  refine run_region ?_
  refine rl_v rfl rfl rfl (ov_lss rfl rfl rfl) ?_
  refine rl_nil ?_
  refine run_seq ?_
  first | refine run_cond_dec rfl (fun h1 => ?_) (fun h1 => ?_) | refine run_cond rfl (fun h1 => ?_) (fun h1 => ?_)
  · have hlen := pk_len (fun i => decide (p i < ow n D i)) k.toNat
    have e1 : upto n (ow n D) k = ow n D k := upto_in hk0 h1
    refine run_skip ?_
    refine run_seq ?_
    refine run_block ?_
    refine run_seq ?_
    refine run_region ?_
    refine rl_v rfl rfl rfl (ov_move rfl rfl) ?_
    refine rl_v rfl rfl rfl (ov_assign rfl rfl) ?_
    refine rl_nil ?_
    refine run_seq ?_
    refine run_quiet mixed (by kernel_rfl) ?_
    refine rq_v rfl rfl rfl (fun _ => ov_move rfl rfl) ?_
    refine rq_v rfl rfl rfl (fun _ => ov_indexA1 rfl Try.underlying101 (by kernel_rfl) rfl rfl ⟨by omega, by omega⟩) ?_
    refine rq_v rfl rfl rfl (fun _ => ov_load rfl Try.underlying2 rfl rfl (by show World.cell? w17 _ = _; first | exact hO.cellI 0 rfl _ (by omega) (by omega) | exact hO.cellL 0 rfl rfl | exact hO.cellI 1 rfl _ (by omega) (by omega) | exact hO.cellL 1 rfl rfl | exact hO.cellI 2 rfl _ (by omega) (by omega) | exact hO.cellL 2 rfl rfl | exact hO.cellI 3 rfl _ (by omega) (by omega) | exact hO.cellL 3 rfl rfl | exact hO.cellI 4 rfl _ (by omega) (by omega) | exact hO.cellL 4 rfl rfl | exact hO.cellI 5 rfl _ (by omega) (by omega) | exact hO.cellL 5 rfl rfl)) ?_
    refine rq_v rfl rfl rfl (fun _ => ov_move rfl rfl) ?_
    refine rq_v rfl rfl rfl (fun _ => ov_indexA1 rfl Try.underlying101 (by kernel_rfl) rfl rfl ⟨by omega, by omega⟩) ?_
    refine rq_v rfl rfl rfl (fun _ => ov_load rfl Try.underlying2 rfl rfl (by show World.cell? w17 _ = _; first | exact hO.cellI 0 rfl _ (by omega) (by omega) | exact hO.cellL 0 rfl rfl | exact hO.cellI 1 rfl _ (by omega) (by omega) | exact hO.cellL 1 rfl rfl | exact hO.cellI 2 rfl _ (by omega) (by omega) | exact hO.cellL 2 rfl rfl | exact hO.cellI 3 rfl _ (by omega) (by omega) | exact hO.cellL 3 rfl rfl | exact hO.cellI 4 rfl _ (by omega) (by omega) | exact hO.cellL 4 rfl rfl | exact hO.cellI 5 rfl _ (by omega) (by omega) | exact hO.cellL 5 rfl rfl)) ?_
    refine rq_v rfl rfl rfl (fun _ => ov_lss rfl rfl rfl) ?_
    refine rq_nil (fun n19 => ?_)
    have hO21 := hO.drewN n19
    generalize World.drewN w17 n19 = w20 at hO21 ⊢
    first | refine run_cond_dec rfl (fun h2 => ?_) (fun h2 => ?_) | refine run_cond rfl (fun h2 => ?_) (fun h2 => ?_)
    · refine run_region ?_
      refine rl_v rfl rfl rfl (ov_move rfl rfl) ?_
      refine rl_v rfl rfl rfl (ov_move rfl rfl) ?_
      refine rl_appI rfl rfl rfl rfl rfl rfl rfl rfl Try.underlying55 info_3 rfl hO21 0 hr rfl rfl rfl ⟨by omega, by omega⟩ (fun v5 c5 w22 hO23 hr5 hs24 => ?_)
      refine rl_v rfl rfl rfl (ov_assign rfl rfl) ?_
      refine rl_nil ?_
      refine run_inBlock ?_
      refine run_region ?_
      refine rl_v rfl rfl rfl (ov_add rfl rfl rfl (by omega)) ?_
      refine rl_v rfl rfl rfl (ov_move rfl rfl) ?_
      refine rl_nil ?_
      refine Run.use (ih18 (k + 1) (v5) (c5) _ ?_ ?_) (And.intro (by first | with_reducible rfl | exact slot_int rfl (by first | omega) | rfl) (And.intro rfl (And.intro rfl (And.intro rfl (And.intro rfl trivial)))))
      · first | omega | (dsimp only; omega)
      · exact ⟨by omega, by omega, row_is (row_snoc hr5) (pk_yes hk0 (decide_eq_true (by rw [← e1]; exact h2))).symm, hO23⟩
    · refine run_skip ?_
      refine run_inBlock ?_
      refine run_region ?_
      refine rl_v rfl rfl rfl (ov_add rfl rfl rfl (by omega)) ?_
      refine rl_v rfl rfl rfl (ov_move rfl rfl) ?_
      refine rl_nil ?_
      refine Run.use (ih18 (k + 1) (v) (cr) _ ?_ ?_) (And.intro (by first | with_reducible rfl | exact slot_int rfl (by first | omega) | rfl) (And.intro rfl (And.intro rfl (And.intro rfl (And.intro rfl trivial)))))
      · first | omega | (dsimp only; omega)
      · exact ⟨by omega, by omega, row_is hr (pk_no hk0 (decide_eq_false (by rw [← e1]; exact h2))).symm, hO21⟩
  · obtain rfl : k = n := by omega
    refine run_exit rfl ?_
    refine run_seq ?_
    refine run_region ?_
    refine rl_v rfl rfl rfl (ov_move rfl rfl) ?_
    refine rl_v rfl rfl rfl (ov_assign rfl rfl) ?_
    refine rl_nil ?_
    refine run_ret Try.func72 (res1 Try.results72 rfl) ?_
    exact ⟨v, cr, rfl, hr, hO.sub (.cons_cons _ (List.nil_sublist _))⟩

theorem failing_any2 (ao ac : Option Addr) (n c cc : Nat) (D : Int → Int → Int) (cash : Int → Int) (w : World) (hv : Valid n D) (hc : ∀ i : Int, 0 ≤ i → i < n → 0 ≤ cash i ∧ cash i ≤ 1000000)
    (h : ITab w.heap.size w ao n (fun _ => n) (fun r c => .int .i64 (D r c))) (hC : IAt w.heap.size w ac n (fun i => .int .i64 (cash i))) :
    Calls Try.prog 33 #[.agg [.slice ao n c, .slice ac n cc].toArray] w fun e w' => ∃ p v c', e = .returned (.tuple #[v, .int .i64 0]) ∧ Clr n D cash (fun _ => true) p ∧ IRow v 3 (flg n D p).length (fun j => .int .i64 (lF (flg n D p) j)) c' ∧ Own w.heap.size w w' [c'] := by
  have hle := hv.le
  have hpos := hv.pos
  refine calls_of_run (F := [(0, _)]) Try.func33 rfl Try.ntmps33 rfl rfl ?_
  have hO0 := Own.init w
  refine run_seq ?_
  refine run_region ?_
  refine rl_ow rfl (ow_box _ rfl rfl rfl rfl rfl hO0) ?_
  rintro _ w1 ⟨b1, rfl, hO2, hs3⟩
  refine rl_v rfl rfl rfl (ov_assign rfl rfl) ?_
  refine rl_v rfl rfl rfl (ov_assign rfl rfl) ?_
  refine rl_nil ?_
  refine run_seq ?_
  refine run_seq ?_
  refine run_region ?_
  refine rl_v rfl rfl rfl (ov_loadW rfl Try.underlying37 rfl (by kernel_rfl) rfl hO2 0 rfl) ?_
  refine rl_call callable_56 rfl rfl rfl rfl rfl rfl (checkCrisis_any ao ac n c n cc (fun _ => n) D cash _ (by omega) (by omega) (h.later hO2.below) (hC.later hO2.below)) (fun e4 w5 hp6 => ?_)
  obtain ⟨rfl, hb⟩ := hp6
  refine ⟨_, rfl, ?_⟩
  have hO7 := hO2.past hb
  rw [hv.chkCr hc]
  refine rl_v rfl rfl rfl (ov_assign rfl rfl) ?_
  refine rl_nil ?_
  refine run_seq ?_
  refine run_region ?_
  refine rl_v rfl rfl rfl (ov_move rfl rfl) ?_
  refine rl_v rfl rfl rfl (ov_neq rfl rfl rfl) ?_
  refine rl_nil ?_
  first | refine run_cond_dec rfl (fun h1 => ?_) (fun h1 => ?_) | refine run_cond rfl (fun h1 => ?_) (fun h1 => ?_)
  · exfalso; exact h1 rfl
  · refine run_skip ?_
    refine run_seq ?_
    refine run_held (fun w' => Own w.heap.size w w' ([some (lch b1 37 [.slice ao n c, .slice ac n cc])])) mixed ?_
    have hO9 := hO7.drew
    generalize World.drew w5 = w8 at hO9 ⊢
    have hS10 : Own w.heap.size w w8 ([some (lch b1 37 [.slice ao n c, .slice ac n cc])]) := by first | exact hO9 | exact hO9.tail
    refine rh_v 0 rfl (by kernel_rfl) rfl rfl rfl hS10 (fun _ hS => ov_loadW rfl Try.underlying37 rfl (by kernel_rfl) rfl hS 0 rfl) ?_
    refine rh_v 1 rfl (by kernel_rfl) rfl rfl rfl hS10 (fun _ hS => ov_loadW rfl Try.underlying37 rfl (by kernel_rfl) rfl hS 0 rfl) ?_
    refine rh_any1 2 (by kernel_rfl) ?_
    refine rc_op rfl rfl (ow_call2 callable_73 rfl rfl rfl rfl rfl (clear_any ao ac n c cc D cash _ hv (fun i i0 i1 => by have := hc i i0 i1; omega) (h.later hO9.below) (hC.later hO9.below)) (by intro e w' hp; obtain ⟨p, rfl, hp, hb2⟩ := hp; exact ⟨_, rfl⟩)) ?_
    rintro _ w13 ⟨_, v11, he14, rfl, hp12⟩
    obtain ⟨p, rfl, hp, hb2⟩ := hp12
    injection he14 with he14; subst he14
    have hO15 := hO9.past hb2
    have hS16 : Own w.heap.size w w13 ([some (lch b1 37 [.slice ao n c, .slice ac n cc])]) := by first | exact hO15 | exact hO15.tail
    refine ⟨hS16, ?_⟩
    refine rh_any1 3 (by kernel_rfl) ?_
    refine rc_op rfl rfl (ow_call2 callable_72 rfl rfl rfl rfl rfl (failing_any ao n c D (.slice ac n cc) p _ hv (h.later hO15.below)) (by intro e w' hp; obtain ⟨v, c', rfl, hr, hO2⟩ := hp; exact ⟨_, rfl⟩)) ?_
    rintro _ w19 ⟨_, v17, he20, rfl, hp18⟩
    obtain ⟨v, c', rfl, hr, hO2⟩ := hp18
    injection he20 with he20; subst he20
    have hO21 := hO15.join hO2
    have hS22 : Own w.heap.size w w19 ([some (lch b1 37 [.slice ao n c, .slice ac n cc])]) := by first | exact hO21 | exact hO21.tail
    refine ⟨hS22, ?_⟩
    refine rh_v 4 rfl (by kernel_rfl) rfl rfl rfl hS22 (fun _ hS => ov_assign rfl rfl) ?_
    refine rh_v 5 rfl (by kernel_rfl) rfl rfl rfl hS22 (fun _ hS => ov_assign rfl rfl) ?_
    refine rh_done (by kernel_rfl) ?_
    refine run_ret Try.func33 (res2 Try.results33 rfl rfl) ?_
    exact ⟨p, v, c', rfl, hp, hr, hO21.sub (.cons_cons _ (List.nil_sublist _))⟩

theorem refFailing_any (ao ac : Option Addr) (n c cc : Nat) (D : Int → Int → Int) (cash : Int → Int) (w : World) (hv : Valid n D) (hc : ∀ i : Int, 0 ≤ i → i < n → 0 ≤ cash i ∧ cash i ≤ 1000000000)
    (h : ITab w.heap.size w ao n (fun _ => n) (fun r c => .int .i64 (D r c))) (hC : IAt w.heap.size w ac n (fun i => .int .i64 (cash i))) :
    Calls Try.prog 37 #[.agg [.slice ao n c, .slice ac n cc].toArray] w fun e w' => ∃ p v c', e = .returned v ∧ Clr n D cash (fun _ => true) p ∧ IRow v 3 (flg n D p).length (fun j => .int .i64 (lF (flg n D p) j)) c' ∧ Own w.heap.size w w' [c'] := by
  have hle := hv.le
  have hpos := hv.pos
  refine calls_of_run (F := [(0, _)]) Try.func37 rfl Try.ntmps37 rfl rfl ?_
  have hO0 := Own.init w
  refine run_seq ?_
  refine run_region ?_
  refine rl_ow rfl (ow_box _ rfl rfl rfl rfl rfl hO0) ?_
  rintro _ w1 ⟨b1, rfl, hO2, hs3⟩
  refine rl_v rfl rfl rfl (ov_assign rfl rfl) ?_
  refine rl_nil ?_
  refine run_seq ?_
  refine run_region ?_
  refine rl_v rfl rfl rfl (ov_fieldS rfl Try.underlying35 rfl (fo := 0) rfl (by kernel_rfl) rfl) ?_
  refine rl_v rfl rfl rfl (ov_load rfl Try.underlying22 rfl rfl (by first | exact hO2.cellI 0 rfl _ (by omega) (by omega) | exact hO2.cellL 0 rfl rfl | exact hO2.cellI 1 rfl _ (by omega) (by omega) | exact hO2.cellL 1 rfl rfl | exact hO2.cellI 2 rfl _ (by omega) (by omega) | exact hO2.cellL 2 rfl rfl | exact hO2.cellI 3 rfl _ (by omega) (by omega) | exact hO2.cellL 3 rfl rfl | exact hO2.cellI 4 rfl _ (by omega) (by omega) | exact hO2.cellL 4 rfl rfl | exact hO2.cellI 5 rfl _ (by omega) (by omega) | exact hO2.cellL 5 rfl rfl)) ?_
  refine rl_call callable_27 rfl rfl rfl rfl rfl rfl (refOwes_any ao n c D _ hv (h.later hO2.below)) (fun e4 w5 hp6 => ?_)
  obtain ⟨b2, rfl, hOc⟩ := hp6
  refine ⟨_, rfl, ?_⟩
  have hO7 := hO2.join hOc
  refine rl_v rfl rfl rfl (ov_assign rfl rfl) ?_
  refine rl_nil ?_
  refine run_seq ?_
  refine run_held (fun w' => Own w.heap.size w w' ([some (vch b2 2 n (fun i => .int .i64 (ow n D i))), some (lch b1 35 [.slice ao n c, .slice ac n cc])])) mixed ?_
  have hO9 := hO7.drew
  generalize World.drew w5 = w8 at hO9 ⊢
  have hS10 : Own w.heap.size w w8 ([some (vch b2 2 n (fun i => .int .i64 (ow n D i))), some (lch b1 35 [.slice ao n c, .slice ac n cc])]) := by first | exact hO9 | exact hO9.tail | exact hO9.tail.tail
  refine rh_v 0 rfl (by kernel_rfl) rfl rfl rfl hS10 (fun _ hS => ov_loadW rfl Try.underlying35 rfl (by kernel_rfl) rfl hS 1 rfl) ?_
  refine rh_v 1 rfl (by kernel_rfl) rfl rfl rfl hS10 (fun _ hS => ov_move rfl rfl) ?_
  refine rh_v 2 rfl (by kernel_rfl) rfl rfl rfl hS10 (fun _ hS => ov_len rfl Try.underlying23 rfl) ?_
  refine rh_any1 3 (by kernel_rfl) ?_
  refine rc_op rfl rfl (ow_call2 callable_29 rfl rfl rfl rfl rfl (refAll_any n _ hle) (by intro e w' hp; obtain ⟨bA, rfl, hOa⟩ := hp; exact ⟨_, rfl⟩)) ?_
  rintro _ w13 ⟨_, v11, he14, rfl, hp12⟩
  obtain ⟨bA, rfl, hOa⟩ := hp12
  injection he14 with he14; subst he14
  have hO15 := hO9.join hOa
  have hS16 : Own w.heap.size w w13 ([some (vch b2 2 n (fun i => .int .i64 (ow n D i))), some (lch b1 35 [.slice ao n c, .slice ac n cc])]) := by first | exact hO15 | exact hO15.tail | exact hO15.tail.tail
  refine ⟨hS16, ?_⟩
  refine rh_any1 4 (by kernel_rfl) ?_
  refine rc_op rfl rfl (ow_call2 callable_28 rfl rfl rfl rfl rfl (refGreatest_any ao ac _ n c cc n D cash (fun _ => true) _ hv hc (h.later hO15.below) (hC.later hO15.below) (hO15.readsI 0 rfl)) (by intro e w' hp; obtain ⟨p, vp, cp', rfl, hclr, hrp, hOp⟩ := hp; exact ⟨_, rfl⟩)) ?_
  rintro _ w19 ⟨_, v17, he20, rfl, hp18⟩
  obtain ⟨p, vp, cp', rfl, hclr, hrp, hOp⟩ := hp18
  injection he20 with he20; subst he20
  have hO21 := hO15.join hOp
  have hS22 : Own w.heap.size w w19 ([some (vch b2 2 n (fun i => .int .i64 (ow n D i))), some (lch b1 35 [.slice ao n c, .slice ac n cc])]) := by first | exact hO21 | exact hO21.tail | exact hO21.tail.tail
  refine ⟨hS22, ?_⟩
  obtain ⟨aop, capp, rfl⟩ := hrp.val
  obtain ⟨pb, Gp, rfl, hq1, hq2, rfl, hG⟩ := hrp.asV hpos
  have hO8 := hO21.sub (H' := [some (vch pb 2 capp Gp), some (vch b2 2 n (fun i => .int .i64 (ow n D i)))]) (.cons_cons _ (.cons _ (.cons_cons _ (List.nil_sublist _))))
  have hO9 := hO8.nil_cons
  refine rh_v 5 rfl (by kernel_rfl) rfl rfl rfl hS22 (fun _ hS => ov_assign rfl rfl) ?_
  refine rh_done (by kernel_rfl) ?_
  refine run_seq ?_
  refine run_region ?_
  refine rl_v rfl rfl rfl (ov_assign rfl rfl) ?_
  refine rl_nil ?_
  refine run_seq ?_
  refine run_seq ?_
  refine run_region ?_
  refine rl_v rfl rfl rfl (ov_assign rfl rfl) ?_
  refine rl_nil ?_
  refine run_block ?_
  refine Run.keep [3, 4, 5, 6] (F' := [(3, _), (4, _), (5, _), (6, _)]) rfl ?_
  refine run_loop3 (fun (k : Int) (v : Value) (cr : Option Blk) => [(6, .int .i64 k), (5, v)]) [3, 4] (fun (k : Int) (v : Value) (cr : Option Blk) (w23 : World) => 0 ≤ k ∧ k ≤ n ∧ IRow v 3 (pk (fun i => decide (p i < ow n D i)) k.toNat).length (fun j => .int .i64 (lF (pk (fun i => decide (p i < ow n D i)) k.toNat) j)) cr ∧ Own w.heap.size w w23 [cr, some (vch pb 2 capp Gp), some (vch b2 2 n (fun i => .int .i64 (ow n D i)))]) (fun (k : Int) (v : Value) (cr : Option Blk) => ((n : Int) - k).toNat) (0) (.slice none 0 0) (none) ?_ (And.intro (by first | with_reducible rfl | exact slot_int rfl (by first | omega) | rfl) (And.intro rfl (And.intro rfl (And.intro rfl trivial)))) ?_
  · exact ⟨by omega, by omega, IRow.nil _ _, hO9⟩
  intro k v cr w23 hIw23 ih24
  obtain ⟨hk0, hk1, hr, hO⟩ := hIw23
  show Run _ _ _ _ [(6, _), (5, _), (3, _), (4, _)] _ _
  refine run_seq ?_
  refine run_seq ?_
  refine run_region ?_
  refine rl_v rfl rfl rfl (ov_move rfl rfl) ?_
  refine rl_v rfl rfl rfl (ov_move rfl rfl) ?_
  refine rl_v rfl rfl rfl (ov_len rfl Try.underlying23 rfl) ?_
  refine rl_v rfl rfl rfl (ov_lss rfl rfl rfl) ?_
  refine rl_nil ?_
  first | refine run_cond_dec rfl (fun h1 => ?_) (fun h1 => ?_) | refine run_cond rfl (fun h1 => ?_) (fun h1 => ?_)
  · have hlen := pk_len (fun i => decide (p i < ow n D i)) k.toNat
    refine run_skip ?_
    refine run_seq ?_
    refine run_block ?_
    refine run_seq ?_
    refine run_quiet mixed (by kernel_rfl) ?_
    refine rq_v rfl rfl rfl (fun _ => ov_move rfl rfl) ?_
    refine rq_v rfl rfl rfl (fun _ => ov_move rfl rfl) ?_
    refine rq_v rfl rfl rfl (fun _ => ov_index1 rfl Try.underlying23 (by kernel_rfl) rfl rfl ⟨by omega, by omega⟩ rfl) ?_
    refine rq_v rfl rfl rfl (fun _ => ov_load rfl Try.underlying2 rfl rfl (by show World.cell? w23 _ = _; first | exact (hO.cellI 1 rfl k hk0 (by omega)).trans (congrArg some (hG k hk0 h1)))) ?_
    refine rq_v rfl rfl rfl (fun _ => ov_move rfl rfl) ?_
    refine rq_v rfl rfl rfl (fun _ => ov_move rfl rfl) ?_
    refine rq_v rfl rfl rfl (fun _ => ov_index1 rfl Try.underlying23 (by kernel_rfl) rfl rfl ⟨by omega, by omega⟩ rfl) ?_
    refine rq_v rfl rfl rfl (fun _ => ov_load rfl Try.underlying2 rfl rfl (by show World.cell? w23 _ = _; first | exact hO.cellI 2 rfl k hk0 (by omega))) ?_
    refine rq_v rfl rfl rfl (fun _ => ov_lss rfl rfl rfl) ?_
    refine rq_nil (fun n25 => ?_)
    have hO27 := hO.drewN n25
    generalize World.drewN w23 n25 = w26 at hO27 ⊢
    first | refine run_cond_dec rfl (fun h2 => ?_) (fun h2 => ?_) | refine run_cond rfl (fun h2 => ?_) (fun h2 => ?_)
    · refine run_region ?_
      refine rl_v rfl rfl rfl (ov_move rfl rfl) ?_
      refine rl_v rfl rfl rfl (ov_move rfl rfl) ?_
      refine rl_appI rfl rfl rfl rfl rfl rfl rfl rfl Try.underlying55 info_3 rfl hO27 0 hr rfl rfl rfl ⟨by omega, by omega⟩ (fun v5 c5 w28 hO29 hr5 hs30 => ?_)
      refine rl_v rfl rfl rfl (ov_assign rfl rfl) ?_
      refine rl_nil ?_
      refine run_inBlock ?_
      refine run_region ?_
      refine rl_v rfl rfl rfl (ov_move rfl rfl) ?_
      refine rl_v rfl rfl rfl (ov_add rfl rfl rfl (by omega)) ?_
      refine rl_v rfl rfl rfl (ov_assign rfl rfl) ?_
      refine rl_nil ?_
      refine Run.use (ih24 (k + 1) (v5) (c5) _ ?_ ?_) (And.intro (by first | with_reducible rfl | exact slot_int rfl (by first | omega) | rfl) (And.intro rfl (And.intro rfl (And.intro rfl trivial))))
      · first | omega | (dsimp only; omega)
      · exact ⟨by omega, by omega, row_is (row_snoc hr5) (pk_yes hk0 (decide_eq_true h2)).symm, hO29⟩
    · refine run_skip ?_
      refine run_inBlock ?_
      refine run_region ?_
      refine rl_v rfl rfl rfl (ov_move rfl rfl) ?_
      refine rl_v rfl rfl rfl (ov_add rfl rfl rfl (by omega)) ?_
      refine rl_v rfl rfl rfl (ov_assign rfl rfl) ?_
      refine rl_nil ?_
      refine Run.use (ih24 (k + 1) (v) (cr) _ ?_ ?_) (And.intro (by first | with_reducible rfl | exact slot_int rfl (by first | omega) | rfl) (And.intro rfl (And.intro rfl (And.intro rfl trivial))))
      · first | omega | (dsimp only; omega)
      · exact ⟨by omega, by omega, row_is hr (pk_no hk0 (decide_eq_false h2)).symm, hO27⟩
  · obtain rfl : k = n := by omega
    refine run_exit rfl ?_
    refine run_seq ?_
    refine run_region ?_
    refine rl_v rfl rfl rfl (ov_move rfl rfl) ?_
    refine rl_v rfl rfl rfl (ov_assign rfl rfl) ?_
    refine rl_nil ?_
    refine run_ret Try.func37 (res1 Try.results37 rfl) ?_
    exact ⟨p, v, cr, rfl, hclr, hr, hO.sub (.cons_cons _ (List.nil_sublist _))⟩

/-- Whether a party fails if an amount is added to its cash. -/
def FailsAt (n : Nat) (D : Int → Int → Int) (cash : Int → Int) (party x : Int) : Prop := ∃ p, Clr n D (upd cash party (cash party + x)) (fun _ => true) p ∧ p party < ow n D party
theorem FailsAt.iff {n : Nat} {D : Int → Int → Int} {cash : Int → Int} {party x : Int} {p : Int → Int} (h : Clr n D (upd cash party (cash party + x)) (fun _ => true) p) (h0 : 0 ≤ party) (h1 : party < n) : FailsAt n D cash party x ↔ p party < ow n D party :=
  ⟨fun ⟨q, hq, e⟩ => by rw [h.uniq hq party h0 h1]; exact e, fun e => ⟨p, h, e⟩⟩
theorem mem_flg {n : Nat} {D : Int → Int → Int} {p : Int → Int} {x : Int} (h0 : 0 ≤ x) (h1 : x < n) : x ∈ flg n D p ↔ p x < ow n D x := by
  unfold flg
  rw [pk_mem]
  simp [h0, h1]

theorem refFails_any (ao ac : Option Addr) (n c cc : Nat) (D : Int → Int → Int) (cash : Int → Int) (party more : Int) (w : World) (hv : Valid n D) (hc : ∀ i : Int, 0 ≤ i → i < n → 0 ≤ cash i ∧ cash i ≤ 1000000) (hp0 : 0 ≤ party) (hp1 : party < n) (hm : 0 ≤ more ∧ more ≤ 100000000)
    (h : ITab w.heap.size w ao n (fun _ => n) (fun r c => .int .i64 (D r c))) (hC : IAt w.heap.size w ac n (fun i => .int .i64 (cash i))) :
    Calls Try.prog 31 #[.agg [.slice ao n c, .slice ac n cc].toArray, .int .i64 party, .int .i64 more] w fun e w' => (∃ b, e = .returned (.bool b) ∧ (b = true ↔ FailsAt n D cash party more)) ∧ Below w.heap.size w w' := by
  have hle := hv.le
  have hpos := hv.pos
  refine calls_of_run (F := [(0, _), (1, _), (2, _)]) Try.func31 rfl Try.ntmps31 rfl rfl ?_
  have hO0 := Own.init w
  refine run_seq ?_
  refine run_region ?_
  refine rl_ow rfl (ow_box _ rfl rfl rfl rfl rfl hO0) ?_
  rintro _ w1 ⟨b1, rfl, hO2, hs3⟩
  have hO5 := hO2.nil_cons
  refine rl_v rfl rfl rfl (ov_assign rfl rfl) ?_
  refine rl_nil ?_
  refine run_seq ?_
  refine run_region ?_
  refine rl_v rfl rfl rfl (ov_assign rfl rfl) ?_
  refine rl_nil ?_
  refine run_seq ?_
  refine run_region ?_
  refine rl_v rfl rfl rfl (ov_move rfl rfl) ?_
  refine rl_v rfl rfl rfl (ov_fieldS rfl Try.underlying35 rfl (fo := 1) rfl (by kernel_rfl) rfl) ?_
  refine rl_v rfl rfl rfl (ov_load rfl Try.underlying23 rfl rfl (by first | exact hO5.cellI 0 rfl _ (by omega) (by omega) | exact hO5.cellL 0 rfl rfl | exact hO5.cellI 1 rfl _ (by omega) (by omega) | exact hO5.cellL 1 rfl rfl | exact hO5.cellI 2 rfl _ (by omega) (by omega) | exact hO5.cellL 2 rfl rfl | exact hO5.cellI 3 rfl _ (by omega) (by omega) | exact hO5.cellL 3 rfl rfl | exact hO5.cellI 4 rfl _ (by omega) (by omega) | exact hO5.cellL 4 rfl rfl | exact hO5.cellI 5 rfl _ (by omega) (by omega) | exact hO5.cellL 5 rfl rfl)) ?_
  refine rl_appSI rfl rfl rfl rfl Try.underlying23 info_2 rfl hO5 0 (IRow.nil 2 (fun j => .int .i64 (zeroI j))) rfl rfl rfl ((hC.below hO5.below)) ⟨by omega, by omega⟩ (fun v3 c3 w4 hO5 hr3 hs6 => ?_)
  rw [Nat.zero_add] at hr3
  obtain ⟨ao3, cap3, rfl⟩ := hr3.val
  obtain ⟨b3, G0, rfl, hq1, hq2, rfl, hG0⟩ := IRow.asV (n := n) (G := fun i => .int .i64 (cash i)) (hr3.congr fun i i0 i1 => by unfold joinF; rw [if_neg (by omega)]; simp) hpos
  have hcp := hc party hp0 hp1
  refine rl_v rfl rfl rfl (ov_assign rfl rfl) ?_
  refine rl_nil ?_
  refine run_seq ?_
  refine run_region ?_
  refine rl_v rfl rfl rfl (ov_move rfl rfl) ?_
  refine rl_v rfl rfl rfl (ov_move rfl rfl) ?_
  refine rl_v rfl rfl rfl (ov_move rfl rfl) ?_
  refine rl_v rfl rfl rfl (ov_move rfl rfl) ?_
  refine rl_v rfl rfl rfl (ov_index1 rfl Try.underlying23 (by kernel_rfl) rfl rfl ⟨by omega, by omega⟩ rfl) ?_
  refine rl_v rfl rfl rfl (ov_load rfl Try.underlying2 rfl rfl (by first | exact (hO5.cellI 0 rfl party hp0 (by omega)).trans (congrArg some (hG0 party hp0 hp1)))) ?_
  refine rl_v rfl rfl rfl (ov_move rfl rfl) ?_
  refine rl_v rfl rfl rfl (ov_add rfl rfl rfl (by omega)) ?_
  refine rl_v rfl rfl rfl (ov_index1 rfl Try.underlying23 (by kernel_rfl) rfl rfl ⟨by omega, by omega⟩ rfl) ?_
  refine rl_ow rfl (ow_store rfl rfl (by kernel_rfl) hO5 0 rfl rfl ⟨by omega, by omega⟩ rfl rfl) ?_
  rintro _ w7 ⟨rfl, hO8, hs9⟩
  have hIC : IAt w7.heap.size w7 (some ⟨b3, 0, none⟩) n (fun i => .int .i64 (upd cash party (cash party + more) i)) := ((hO8.readsI 0 rfl).take hq1).congr fun i i0 i1 => by unfold upd; split; rfl; exact hG0 i i0 i1
  have hcu : ∀ i : Int, 0 ≤ i → i < n → 0 ≤ upd cash party (cash party + more) i ∧ upd cash party (cash party + more) i ≤ 1000000000 := fun i i0 i1 => by unfold upd; split; omega; (have := hc i i0 i1; omega)
  refine rl_nil ?_
  refine run_seq ?_
  refine run_region ?_
  refine rl_v rfl rfl rfl (ov_fieldS rfl Try.underlying35 rfl (fo := 0) rfl (by kernel_rfl) rfl) ?_
  refine rl_v rfl rfl rfl (ov_load rfl Try.underlying22 rfl rfl (by first | exact hO8.cellI 0 rfl _ (by omega) (by omega) | exact hO8.cellL 0 rfl rfl | exact hO8.cellI 1 rfl _ (by omega) (by omega) | exact hO8.cellL 1 rfl rfl | exact hO8.cellI 2 rfl _ (by omega) (by omega) | exact hO8.cellL 2 rfl rfl | exact hO8.cellI 3 rfl _ (by omega) (by omega) | exact hO8.cellL 3 rfl rfl | exact hO8.cellI 4 rfl _ (by omega) (by omega) | exact hO8.cellL 4 rfl rfl | exact hO8.cellI 5 rfl _ (by omega) (by omega) | exact hO8.cellL 5 rfl rfl)) ?_
  refine rl_v rfl rfl rfl (ov_move rfl rfl) ?_
  refine rl_v rfl rfl rfl (ov_buildL rfl lay_35 rfl (us := [_, _]) rfl) ?_
  refine rl_call callable_37 rfl rfl rfl rfl rfl rfl (refFailing_any ao _ n c cap3 D (upd cash party (cash party + more)) _ hv hcu (h.later hO8.below) hIC) (fun e10 w11 hp12 => ?_)
  obtain ⟨p, v, c', rfl, hclr, hr, hOf⟩ := hp12
  refine ⟨_, rfl, ?_⟩
  have hO13 := hO8.join hOf
  obtain ⟨aov, capv, rfl⟩ := hr.val
  have hfl := FailsAt.iff hclr hp0 hp1
  have hmem := (mem_flg (D := D) (p := p) hp0 hp1).symm
  have hlen : (flg n D p).length ≤ n := pk_len _ _
  obtain ⟨vb, hva, hvc⟩ := hr.openS hO13 0 rfl
  have hIv := hr.reads hO13 0 rfl
  have hOv := Own.init w11
  obtain ⟨vb2, vo2, hva2, hvc2⟩ := hIv.open
  have hOB := hO13
  refine rl_v rfl rfl rfl (ov_assign rfl rfl) ?_
  refine rl_nil ?_
  refine run_seq ?_
  refine run_seq ?_
  refine run_region ?_
  refine rl_v rfl rfl rfl (ov_assign rfl rfl) ?_
  refine rl_nil ?_
  refine run_block ?_
  refine Run.keep [1, 8, 9] (F' := [(1, _), (8, _), (9, _)]) rfl ?_
  refine run_loop1 (fun (k : Int) => [(9, .int .i64 k)]) [1, 8] (fun (k : Int) (w14 : World) => 0 ≤ k ∧ k ≤ (flg n D p).length ∧ (∀ j : Int, 0 ≤ j → j < k → lF (flg n D p) j ≠ party) ∧ Own w11.heap.size w11 w14 []) (fun (k : Int) => (((flg n D p).length : Int) - k).toNat) (0) ?_ (And.intro (by first | with_reducible rfl | exact slot_int rfl (by first | omega) | rfl) (And.intro rfl (And.intro rfl trivial))) ?_
  · exact ⟨by omega, by omega, fun i i0 i1 => by omega, hOv⟩
  intro k w14 hIw14 ih15
  obtain ⟨hk0, hk1, hall, hO⟩ := hIw14
  show Run _ _ _ _ [(9, _), (1, _), (8, _)] _ _
  refine run_seq ?_
  refine run_seq ?_
  refine run_region ?_
  refine rl_v rfl rfl rfl (ov_move rfl rfl) ?_
  refine rl_v rfl rfl rfl (ov_move rfl rfl) ?_
  refine rl_v rfl rfl rfl (ov_len rfl Try.underlying55 rfl) ?_
  refine rl_v rfl rfl rfl (ov_lss rfl rfl rfl) ?_
  refine rl_nil ?_
  first | refine run_cond_dec rfl (fun h4 => ?_) (fun h4 => ?_) | refine run_cond rfl (fun h4 => ?_) (fun h4 => ?_)
  · refine run_skip ?_
    refine run_seq ?_
    refine run_block ?_
    refine run_seq ?_
    refine run_region ?_
    refine rl_v rfl rfl rfl (ov_move rfl rfl) ?_
    refine rl_v rfl rfl rfl (ov_move rfl rfl) ?_
    refine rl_v rfl rfl rfl (ov_index1 rfl Try.underlying55 (by kernel_rfl) rfl rfl ⟨by omega, by omega⟩ (by first | rfl | exact hva2 (by omega))) ?_
    refine rl_v rfl rfl rfl (ov_load rfl Try.underlying3 rfl rfl (by first | exact hvc2 _ hO.below _ (by omega) (by omega) | exact hO.cellI 0 rfl _ (by omega) (by omega) | exact hO.cellL 0 rfl rfl | exact hO.cellI 1 rfl _ (by omega) (by omega) | exact hO.cellL 1 rfl rfl | exact hO.cellI 2 rfl _ (by omega) (by omega) | exact hO.cellL 2 rfl rfl | exact hO.cellI 3 rfl _ (by omega) (by omega) | exact hO.cellL 3 rfl rfl | exact hO.cellI 4 rfl _ (by omega) (by omega) | exact hO.cellL 4 rfl rfl | exact hO.cellI 5 rfl _ (by omega) (by omega) | exact hO.cellL 5 rfl rfl)) ?_
    refine rl_v rfl rfl rfl (ov_move rfl rfl) ?_
    refine rl_v rfl rfl rfl (ov_eql rfl rfl rfl) ?_
    refine rl_nil ?_
    first | refine run_cond_dec rfl (fun h5 => ?_) (fun h5 => ?_) | refine run_cond rfl (fun h5 => ?_) (fun h5 => ?_)
    · refine run_seq ?_
      refine run_region ?_
      refine rl_v rfl rfl rfl (ov_assign rfl rfl) ?_
      refine rl_nil ?_
      refine run_ret Try.func31 (res1 Try.results31 rfl) ?_
      exact ⟨⟨true, rfl, ⟨fun _ => hfl.2 (hmem.2 (lF_mem.2 ⟨k, hk0, h4, h5⟩)), fun _ => rfl⟩⟩, (hOB.join hO).below⟩
    · refine run_skip ?_
      refine run_inBlock ?_
      refine run_region ?_
      refine rl_v rfl rfl rfl (ov_move rfl rfl) ?_
      refine rl_v rfl rfl rfl (ov_add rfl rfl rfl (by omega)) ?_
      refine rl_v rfl rfl rfl (ov_assign rfl rfl) ?_
      refine rl_nil ?_
      refine Run.use (ih15 _ _ ?_ ?_) (And.intro (by first | with_reducible rfl | exact slot_int rfl (by first | omega) | rfl) (And.intro rfl (And.intro rfl trivial)))
      · first | omega | (dsimp only; omega)
      · exact ⟨by omega, by omega, fun i h0 h1' => (by omega : i = k ∨ i < k).elim (fun e => by rw [e]; exact h5) (fun e => hall i h0 e), hO⟩
  · refine run_exit rfl ?_
    refine run_seq ?_
    refine run_region ?_
    refine rl_v rfl rfl rfl (ov_assign rfl rfl) ?_
    refine rl_nil ?_
    refine run_ret Try.func31 (res1 Try.results31 rfl) ?_
    exact ⟨⟨false, rfl, ⟨fun h => Bool.noConfusion h, fun hh => by obtain ⟨j, j0, j1, e⟩ := lF_mem.1 (hmem.1 (hfl.1 hh)); exact absurd e (hall j j0 (by omega))⟩⟩, (hOB.join hO).below⟩
end Go.Proofs.Ytiambddcpflkhaa
