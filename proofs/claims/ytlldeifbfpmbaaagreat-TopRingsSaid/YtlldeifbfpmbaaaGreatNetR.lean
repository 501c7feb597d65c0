import Derived.Test.YtlldeifbfpmbaaaGreatNetK
set_option maxRecDepth 100000
namespace Go.Proofs.YtlldeifbfpmbaaaGreat
open Go.RowKit Go.Proofs
theorem Valid.chkCr {n : Nat} {D : Int → Int → Int} (hv : Valid n D) {cash : Int → Int} (hc : ∀ i : Int, 0 ≤ i → i < n → 0 ≤ cash i ∧ cash i ≤ 1000000) : chkC n (fun _ => n) D n cash = 0 := by
 unfold chkC
 rw [if_neg (by rw [hv.chk]; simp), if_neg (by omega), if_neg]
 rintro ⟨i, i0, i1, hx⟩
 have := hc i i0 i1
 omega
end Go.Proofs.YtlldeifbfpmbaaaGreat
set_option maxRecDepth 100000
namespace Go.Proofs.YtlldeifbfpmbaaaGreat
open Go.RowKit Go.Proofs
theorem row_snoc {v : Value} {T : TypeId} {l : List Int} {x : Int} {c : Option Blk} (h : IRow v T (l.length + 1) (fun i => .int .i64 (upd (lF l) l.length x i)) c) : IRow v T (l ++ [x]).length (fun i => .int .i64 (lF (l ++ [x]) i)) c := by
 rw [List.length_append, List.length_singleton]
 exact h.congr fun j j0 j1 => by rw [lF_snoc l x j j0 j1]
theorem row_is {v : Value} {T : TypeId} {l l' : List Int} {c : Option Blk} (h : IRow v T l.length (fun i => .int .i64 (lF l i)) c) (e : l = l') : IRow v T l'.length (fun i => .int .i64 (lF l' i)) c := e ▸ h
theorem failing_any (ao : Option Addr) (n c : Nat) (D : Int → Int → Int) (cash : Value) (p : Int → Int) (w : World) (hv : Valid n D)
  (h : ITab w.heap.size w ao n (fun _ => n) (fun r c => .int .i64 (D r c))) :
  Calls Tryz.prog 70 #[.agg [.slice ao n c, cash].toArray, arrv 32 (fun i => .int .i64 (p i))] w fun e w' => ∃ v c', e = .returned v ∧ IRow v 3 (flg n D p).length (fun j => .int .i64 (lF (flg n D p) j)) c' ∧ Own w.heap.size w w' [c'] := by
 have hle := hv.le
 refine calls_of_run (F := [(0, _), (1, _)]) Tryz.func70 rfl Tryz.ntmps70 rfl rfl ?_
 have hO0 := Own.init w
 refine run_seq <| run_region <| rl_ow rfl (ow_box _ rfl rfl rfl rfl rfl hO0) ?_
 rintro _ w1 ⟨b2, rfl, hO2, hs3⟩
 refine rl_ow rfl (ow_boxA rfl rfl rfl rfl hO2) ?_
 rintro _ w4 ⟨b3, rfl, hO5, hs6⟩
 refine rl_v rfl rfl rfl (ov_assign rfl rfl) <| rl_nil <| run_seq <| run_region <| rl_v rfl rfl rfl (ov_loadW rfl Tryz.underlying73 rfl (by kernel_rfl) rfl hO5 1 rfl) ?_
 refine rl_call callable_109 rfl rfl rfl rfl rfl rfl (owed_any ao n c D cash _ hv (h.later hO5.below)) (fun e7 w8 hp9 => ?_)
 obtain ⟨rfl, hb⟩ := hp9
 refine ⟨_, rfl, ?_⟩
 have hO10 := hO5.past hb
 refine rl_ow rfl (ow_allocA 32 rfl rfl rfl zero_132 rfl hO10) ?_
 rintro _ w11 ⟨b5, rfl, hO12, hs13⟩
 refine rl_ow rfl (ow_storeA rfl rfl (by kernel_rfl) hO12 0 rfl rfl rfl (fun _ => rfl)) ?_
 rintro _ w14 ⟨rfl, hO15, hs16⟩
 have hO9 := hO15.nil_cons
 refine rl_nil <| run_seq <| run_region <| rl_v rfl rfl rfl (ov_assign rfl rfl) <| rl_nil <| run_seq <| run_seq <| run_region <| rl_v rfl rfl rfl (ov_fieldS rfl Tryz.underlying73 rfl (fo := 0) rfl (by kernel_rfl) rfl) ?_
 refine rl_v rfl rfl rfl (ov_load rfl Tryz.underlying64 rfl rfl (by exact hO9.cellL 3 rfl rfl)) ?_
 refine rl_v rfl rfl rfl (ov_len rfl Tryz.underlying64 rfl) <| rl_v rfl rfl rfl (ov_move rfl rfl) <| rl_nil <| run_block <| Run.keep [3, 5, 6, 12, 13] (F' := [(3, _), (5, _), (6, _), (12, _), (13, _)]) rfl <| run_loop3 (fun (k : Int) (v : Value) (cr : Option Blk) => [(13, .int .i64 k), (6, v)]) [3, 5, 12] (fun (k : Int) (v : Value) (cr : Option Blk) (w17 : World) => 0 ≤ k ∧ k ≤ n ∧ IRow v 3 (pk (fun i => decide (p i < ow n D i)) k.toNat).length (fun j => .int .i64 (lF (pk (fun i => decide (p i < ow n D i)) k.toNat) j)) cr ∧ Own w.heap.size w w17 [cr, some (vch b5 132 32 (fun i => .int .i64 (upto n (ow n D) i))), some (vch b3 132 32 (fun i => .int .i64 (p i))), some (lch b2 73 [.slice ao n c, cash])]) (fun (k : Int) (v : Value) (cr : Option Blk) => ((n : Int) - k).toNat) (0) (.slice none 0 0) (none) ?_ (And.intro (by exact slot_int rfl (by first | omega)) (And.intro rfl (And.intro rfl (And.intro rfl (And.intro rfl trivial))))) ?_
 ·exact ⟨by omega, by omega, IRow.nil _ _, hO9⟩
 intro k v cr w17 hIw17 ih18
 obtain ⟨hk0, hk1, hr, hO⟩ := hIw17
 show Run _ _ _ _ [(13, _), (6, _), (3, _), (5, _), (12, _)] _ _
 refine run_seq <| run_region <| rl_v rfl rfl rfl (ov_lss rfl rfl rfl) <| rl_nil <| run_seq ?_
 first | refine run_cond_dec rfl (fun h1 => ?_) (fun h1 => ?_) | refine run_cond rfl (fun h1 => ?_) (fun h1 => ?_)
 ·have hlen := pk_len (fun i => decide (p i < ow n D i)) k.toNat
  have e1 : upto n (ow n D) k = ow n D k := upto_in hk0 h1
  refine run_skip <| run_seq <| run_block <| run_seq <| run_region <| rl_v rfl rfl rfl (ov_move rfl rfl) <| rl_v rfl rfl rfl (ov_assign rfl rfl) <| rl_nil <| run_seq <| run_quiet mixed (by kernel_rfl) ?_
  refine rq_v rfl rfl rfl (fun _ => ov_move rfl rfl) ?_
  refine rq_v rfl rfl rfl (fun _ => ov_indexA1 rfl Tryz.underlying132 (by kernel_rfl) rfl rfl ⟨by omega, by omega⟩) ?_
  refine rq_v rfl rfl rfl (fun _ => ov_load rfl Tryz.underlying2 rfl rfl (by show World.cell? w17 _ = _; first | exact hO.cellI 0 rfl _ (by omega) (by omega) | exact hO.cellL 0 rfl rfl | exact hO.cellI 1 rfl _ (by omega) (by omega) | exact hO.cellL 1 rfl rfl | exact hO.cellI 2 rfl _ (by omega) (by omega) | exact hO.cellL 2 rfl rfl | exact hO.cellI 3 rfl _ (by omega) (by omega) | exact hO.cellL 3 rfl rfl | exact hO.cellI 4 rfl _ (by omega) (by omega) | exact hO.cellL 4 rfl rfl | exact hO.cellI 5 rfl _ (by omega) (by omega) | exact hO.cellL 5 rfl rfl)) ?_
  refine rq_v rfl rfl rfl (fun _ => ov_move rfl rfl) ?_
  refine rq_v rfl rfl rfl (fun _ => ov_indexA1 rfl Tryz.underlying132 (by kernel_rfl) rfl rfl ⟨by omega, by omega⟩) ?_
  refine rq_v rfl rfl rfl (fun _ => ov_load rfl Tryz.underlying2 rfl rfl (by show World.cell? w17 _ = _; first | exact hO.cellI 0 rfl _ (by omega) (by omega) | exact hO.cellL 0 rfl rfl | exact hO.cellI 1 rfl _ (by omega) (by omega) | exact hO.cellL 1 rfl rfl | exact hO.cellI 2 rfl _ (by omega) (by omega) | exact hO.cellL 2 rfl rfl | exact hO.cellI 3 rfl _ (by omega) (by omega) | exact hO.cellL 3 rfl rfl | exact hO.cellI 4 rfl _ (by omega) (by omega) | exact hO.cellL 4 rfl rfl | exact hO.cellI 5 rfl _ (by omega) (by omega) | exact hO.cellL 5 rfl rfl)) ?_
  refine rq_v rfl rfl rfl (fun _ => ov_lss rfl rfl rfl) ?_
  refine rq_nil (fun n19 => ?_)
  have hO21 := hO.drewN n19
  generalize World.drewN w17 n19 = w20 at hO21 ⊢
  first | refine run_cond_dec rfl (fun h2 => ?_) (fun h2 => ?_) | refine run_cond rfl (fun h2 => ?_) (fun h2 => ?_)
  ·refine run_region <| rl_v rfl rfl rfl (ov_move rfl rfl) <| rl_v rfl rfl rfl (ov_move rfl rfl) ?_
   refine rl_appI rfl rfl rfl rfl rfl rfl rfl rfl Tryz.underlying23 info_3 rfl hO21 0 hr rfl rfl rfl ⟨by omega, by omega⟩ (fun v5 c5 w22 hO23 hr5 hs24 => ?_)
   refine rl_v rfl rfl rfl (ov_assign rfl rfl) <| rl_nil <| run_inBlock <| run_region <| rl_v rfl rfl rfl (ov_add rfl rfl rfl (by omega)) ?_
   refine rl_v rfl rfl rfl (ov_move rfl rfl) <| rl_nil ?_
   refine Run.use (ih18 (k + 1) (v5) (c5) _ ?_ ?_) (And.intro (by exact slot_int rfl (by first | omega)) (And.intro rfl (And.intro rfl (And.intro rfl (And.intro rfl trivial)))))
   ·first | omega | (dsimp only; omega)
   ·exact ⟨by omega, by omega, row_is (row_snoc hr5) (pk_yes hk0 (decide_eq_true (by rw [← e1]; exact h2))).symm, hO23⟩
  ·refine run_skip <| run_inBlock <| run_region <| rl_v rfl rfl rfl (ov_add rfl rfl rfl (by omega)) ?_
   refine rl_v rfl rfl rfl (ov_move rfl rfl) <| rl_nil ?_
   refine Run.use (ih18 (k + 1) (v) (cr) _ ?_ ?_) (And.intro (by exact slot_int rfl (by first | omega)) (And.intro rfl (And.intro rfl (And.intro rfl (And.intro rfl trivial)))))
   ·first | omega | (dsimp only; omega)
   ·exact ⟨by omega, by omega, row_is hr (pk_no hk0 (decide_eq_false (by rw [← e1]; exact h2))).symm, hO21⟩
 ·obtain rfl : k = n := by omega
  refine run_exit rfl <| run_seq <| run_region <| rl_v rfl rfl rfl (ov_move rfl rfl) <| rl_v rfl rfl rfl (ov_assign rfl rfl) <| rl_nil <| run_ret Tryz.func70 (res1 Tryz.results70 rfl) ?_
  exact ⟨v, cr, rfl, hr, hO.sub (.cons_cons _ (List.nil_sublist _))⟩
theorem failing_any2 (ao ac : Option Addr) (n c cc : Nat) (D : Int → Int → Int) (cash : Int → Int) (w : World) (hv : Valid n D) (hc : ∀ i : Int, 0 ≤ i → i < n → 0 ≤ cash i ∧ cash i ≤ 1000000)
  (h : ITab w.heap.size w ao n (fun _ => n) (fun r c => .int .i64 (D r c))) (hC : IAt w.heap.size w ac n (fun i => .int .i64 (cash i))) :
  Calls Tryz.prog 36 #[.agg [.slice ao n c, .slice ac n cc].toArray] w fun e w' => ∃ p v c', e = .returned (.tuple #[v, .int .i64 0]) ∧ Clr n D cash (fun _ => true) p ∧ IRow v 3 (flg n D p).length (fun j => .int .i64 (lF (flg n D p) j)) c' ∧ Own w.heap.size w w' [c'] := by
 have hle := hv.le
 have hpos := hv.pos
 refine calls_of_run (F := [(0, _)]) Tryz.func36 rfl Tryz.ntmps36 rfl rfl ?_
 have hO0 := Own.init w
 refine run_seq <| run_region <| rl_ow rfl (ow_box _ rfl rfl rfl rfl rfl hO0) ?_
 rintro _ w1 ⟨b1, rfl, hO2, hs3⟩
 refine rl_v rfl rfl rfl (ov_assign rfl rfl) <| rl_v rfl rfl rfl (ov_assign rfl rfl) <| rl_nil <| run_seq <| run_seq <| run_region <| rl_v rfl rfl rfl (ov_loadW rfl Tryz.underlying73 rfl (by kernel_rfl) rfl hO2 0 rfl) ?_
 refine rl_call callable_69 rfl rfl rfl rfl rfl rfl (checkCrisis_any ao ac n c n cc (fun _ => n) D cash _ (by omega) (by omega) (h.later hO2.below) (hC.later hO2.below)) (fun e4 w5 hp6 => ?_)
 obtain ⟨rfl, hb⟩ := hp6
 refine ⟨_, rfl, ?_⟩
 have hO7 := hO2.past hb
 rw [hv.chkCr hc]
 refine rl_v rfl rfl rfl (ov_assign rfl rfl) <| rl_nil <| run_seq <| run_region <| rl_v rfl rfl rfl (ov_move rfl rfl) <| rl_v rfl rfl rfl (ov_neq rfl rfl rfl) <| rl_nil ?_
 first | refine run_cond_dec rfl (fun h1 => ?_) (fun h1 => ?_) | refine run_cond rfl (fun h1 => ?_) (fun h1 => ?_)
 ·exfalso; exact h1 rfl
 ·refine run_skip <| run_seq <| run_held (fun w' => Own w.heap.size w w' ([some (lch b1 73 [.slice ao n c, .slice ac n cc])])) mixed ?_
  have hO9 := hO7.drew
  generalize World.drew w5 = w8 at hO9 ⊢
  have hS10 : Own w.heap.size w w8 ([some (lch b1 73 [.slice ao n c, .slice ac n cc])]) := by first | exact hO9 | exact hO9.tail
  refine rh_v 0 rfl (by kernel_rfl) rfl rfl rfl hS10 (fun _ hS => ov_loadW rfl Tryz.underlying73 rfl (by kernel_rfl) rfl hS 0 rfl) ?_
  refine rh_v 1 rfl (by kernel_rfl) rfl rfl rfl hS10 (fun _ hS => ov_loadW rfl Tryz.underlying73 rfl (by kernel_rfl) rfl hS 0 rfl) ?_
  refine rh_any1 2 (by kernel_rfl) ?_
  refine rc_op rfl rfl (ow_call2 callable_71 rfl rfl rfl rfl rfl (clear_any ao ac n c cc D cash _ hv (fun i i0 i1 => by have := hc i i0 i1; omega) (h.later hO9.below) (hC.later hO9.below)) (by intro e w' hp; obtain ⟨p, rfl, hp, hb2⟩ := hp; exact ⟨_, rfl⟩)) ?_
  rintro _ w13 ⟨_, v11, he14, rfl, hp12⟩
  obtain ⟨p, rfl, hp, hb2⟩ := hp12
  injection he14 with he14; subst he14
  have hO15 := hO9.past hb2
  have hS16 : Own w.heap.size w w13 ([some (lch b1 73 [.slice ao n c, .slice ac n cc])]) := by first | exact hO15 | exact hO15.tail
  refine ⟨hS16, ?_⟩
  refine rh_any1 3 (by kernel_rfl) ?_
  refine rc_op rfl rfl (ow_call2 callable_70 rfl rfl rfl rfl rfl (failing_any ao n c D (.slice ac n cc) p _ hv (h.later hO15.below)) (by intro e w' hp; obtain ⟨v, c', rfl, hr, hO2⟩ := hp; exact ⟨_, rfl⟩)) ?_
  rintro _ w19 ⟨_, v17, he20, rfl, hp18⟩
  obtain ⟨v, c', rfl, hr, hO2⟩ := hp18
  injection he20 with he20; subst he20
  have hO21 := hO15.join hO2
  have hS22 : Own w.heap.size w w19 ([some (lch b1 73 [.slice ao n c, .slice ac n cc])]) := by first | exact hO21 | exact hO21.tail
  refine ⟨hS22, ?_⟩
  refine rh_v 4 rfl (by kernel_rfl) rfl rfl rfl hS22 (fun _ hS => ov_assign rfl rfl) ?_
  refine rh_v 5 rfl (by kernel_rfl) rfl rfl rfl hS22 (fun _ hS => ov_assign rfl rfl) ?_
  refine rh_done (by kernel_rfl) ?_
  refine run_ret Tryz.func36 (res2 Tryz.results36 rfl rfl) ?_
  exact ⟨p, v, c', rfl, hp, hr, hO21.sub (.cons_cons _ (List.nil_sublist _))⟩
end Go.Proofs.YtlldeifbfpmbaaaGreat
