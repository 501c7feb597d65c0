import Derived.Test.YtlldeifbfpmbaaaGreatFmA
import Derived.Test.YtlldeifbfpmbaaaGreatFkF
set_option maxRecDepth 100000
namespace Go.Proofs.YtlldeifbfpmbaaaGreat
open Go.RowKit Go.Proofs Go.MapKept
def FSrcN (H : List (Option Blk)) (ga ba qa : Option Addr) (f : Fair) (nq : Nat) : Prop := ∀ (B : Nat) (w0 w : World), Own B w0 w H → FAg w.heap.size w ga ba qa f nq
theorem FSrcN.at {H : List (Option Blk)} {ga ba qa : Option Addr} {f : Fair} {nq : Nat} (h : FSrcN H ga ba qa f nq) {B : Nat} {w0 w : World} (hO : Own B w0 w H) : FAg w.heap.size w ga ba qa f nq := h B w0 w hO
def cutF (n m : Nat) (GL BL : Int → Nat) (GE BE : Int → Int → Int) (q : Int → Int) : Fair := ⟨min n 65, min m 65, fun r => min (GL r) 70, GE, fun r => min (BL r) 70, BE, q⟩
theorem sub_y1 {α : Type} {a b c : α} : [c].Sublist [a, b, c] := .cons _ (.cons _ (.refl _))
theorem sub_y2 {α : Type} {a b c : α} {M : List α} : [c].Sublist (M ++ [a, b, c]) := sub_y1.trans (List.sublist_append_right _ _)
theorem sub_y3 {α : Type} {a b c : α} {M N : List α} : [c].Sublist (M ++ (N ++ [a, b, c])) := sub_y2.trans (List.sublist_append_right _ _)
set_option maxHeartbeats 2000000 in
theorem copied5_any (ga ba qa : Option Addr) (n gc m bc nq qc : Nat) (GL BL : Int → Nat) (GE BE : Int → Int → Int) (q : Int → Int) (w : World)
  (hG : RTab w.heap.size w ga n GL GE) (hB : RTab w.heap.size w ba m BL BE) (hQ : IAt w.heap.size w qa nq (fun i => iv (q i))) (hqc : nq ≤ qc) :
  Calls Tryz.prog 21 #[.agg (fairL ga ba qa n gc m bc nq qc).toArray] w fun e w' => ∃ (ga' ba' qa' : Option Addr) (gc' bc' qc' : Nat) (H : List (Option Blk)), e = .returned (.agg (fairL ga' ba' qa' (cutF n m GL BL GE BE q).n gc' (cutF n m GL BL GE BE q).m bc' (min nq 70) qc').toArray) ∧ FSrcN H ga' ba' qa' (cutF n m GL BL GE BE q) (min nq 70) ∧ Own w.heap.size w w' H := by
 refine calls_of_run (F := [(0, _)]) Tryz.func21 rfl Tryz.ntmps21 rfl rfl ?_
 have hO0 := Own.init w
 refine run_seq <| run_region <| rl_ow rfl (ow_box _ rfl rfl rfl rfl rfl hO0) ?_
 rintro _ w1 ⟨b1, rfl, hO2, hs3⟩
 refine rl_ow rfl (ow_alloc _ rfl rfl rfl zero_25 rfl hO2) ?_
 rintro _ w4 ⟨b2, rfl, hO5, hs6⟩
 have hOn := hO5.nil_cons
 refine rl_nil <| run_seq <| run_region <| rl_v rfl rfl rfl (ov_assign rfl rfl) <| rl_nil <| run_seq <| run_region <| rl_v rfl rfl rfl (ov_move rfl rfl) <| rl_v rfl rfl rfl (ov_fieldS rfl Tryz.underlying25 rfl (fo := 2) rfl (by kernel_rfl) rfl) ?_
 refine rl_v rfl rfl rfl (ov_load rfl Tryz.underlying23 rfl rfl (by exact hOn.cellL 2 rfl (off := 2) rfl)) ?_
 refine rl_v rfl rfl rfl (ov_fieldS rfl Tryz.underlying25 rfl (fo := 2) rfl (by kernel_rfl) rfl) ?_
 refine rl_v rfl rfl rfl (ov_load rfl Tryz.underlying23 rfl rfl (by exact hOn.cellL 2 rfl (off := 2) rfl)) ?_
 refine rl_v rfl rfl rfl (ov_len rfl Tryz.underlying23 rfl) <| rl_v rfl rfl rfl (ov_min rfl rfl rfl) <| rl_v rfl rfl rfl (ov_sliceH (min nq 70) (s := 1) rfl Tryz.underlying23 (by kernel_rfl) rfl rfl (by omega) (by omega)) ?_
 refine rl_ow rfl (ow_appS rfl rfl rfl Tryz.underlying23 info_3 rfl hOn 0 (IRow.nil 3 (fun _ => iv 0)) rfl rfl rfl (((hOn.iatF hQ).take (by omega))) (fun _ => rfl) ⟨by omega, by omega⟩) ?_
 rintro _ w7 ⟨v12, cq, rfl, hO8, hr12, hs9⟩
 obtain ⟨qa1, qc1, rfl⟩ := Row.val hr12
 have hrq : IRow (.slice qa1 (min nq 70) qc1) 3 (min nq 70) (fun i => iv (q i)) cq := by rw [Nat.zero_add] at hr12; exact hr12.congr fun i i0 i1 => by unfold joinF; rw [if_neg (by omega)]; exact congrArg (fun j => iv (q j)) (by omega)
 have hOs := hO8.swap
 refine rl_v rfl rfl rfl (ov_assign rfl rfl) <| rl_nil <| run_seq <| run_late (fun w' => Own w.heap.size w w' ([some (lch b1 25 (fairL ga ba qa n gc m bc nq qc))])) 8 mixed ?_
 have hO11 := hOs.drew
 generalize World.drew w7 = w10 at hO11 ⊢
 have hS12 : Own w.heap.size w w10 ([some (lch b1 25 (fairL ga ba qa n gc m bc nq qc))]) := by first | exact hO11.sub sub_y1 | exact hO11.sub sub_y2 | exact hO11.sub sub_y3
 refine rhl_v 0 rfl (by kernel_rfl) rfl rfl rfl hS12 (fun _ hS => ov_fieldS rfl Tryz.underlying25 rfl (fo := 0) rfl (by kernel_rfl) rfl) ?_
 refine rhl_v 1 rfl (by kernel_rfl) rfl rfl rfl hS12 (fun _ hS => ov_load rfl Tryz.underlying22 rfl rfl (by exact hS.cellL 0 rfl (off := 0) rfl)) ?_
 refine rhl_v 3 rfl (by kernel_rfl) rfl rfl rfl hS12 (fun _ hS => ov_fieldS rfl Tryz.underlying25 rfl (fo := 1) rfl (by kernel_rfl) rfl) ?_
 refine rhl_v 4 rfl (by kernel_rfl) rfl rfl rfl hS12 (fun _ hS => ov_load rfl Tryz.underlying22 rfl rfl (by exact hS.cellL 0 rfl (off := 1) rfl)) ?_
 refine rhl_v 6 rfl (by kernel_rfl) rfl rfl rfl hS12 (fun _ hS => ov_move rfl rfl) ?_
 refine rhl_any1 2 (by kernel_rfl) ?_
 refine rcl_op rfl rfl (ow_call2 callable_38 rfl rfl rfl rfl rfl (lists5_any ga n gc 65 70 GL GE _ (by omega) (by omega) (hO11.rtab hG)) (by intro e w' hp; obtain ⟨ga1, gc1, Hg, rfl, hc1, hTg, hOw1⟩ := hp; exact ⟨_, rfl⟩)) ?_
 rintro _ w15 ⟨_, v13, he16, rfl, hp14⟩
 obtain ⟨ga1, gc1, Hg, rfl, hc1, hTg, hOw1⟩ := hp14
 injection he16 with he16; subst he16
 have hO17 := hO11.join hOw1
 have hS18 : Own w.heap.size w w15 ([some (lch b1 25 (fairL ga ba qa n gc m bc nq qc))]) := by first | exact hO17.sub sub_y1 | exact hO17.sub sub_y2 | exact hO17.sub sub_y3
 refine ⟨hS18, ?_⟩
 refine rhl_any1 5 (by kernel_rfl) ?_
 refine rcl_op rfl rfl (ow_call2 callable_38 rfl rfl rfl rfl rfl (lists5_any ba m bc 65 70 BL BE _ (by omega) (by omega) (hO17.rtab hB)) (by intro e w' hp; obtain ⟨ba1, bc1, Hb, rfl, hc2, hTb, hOw2⟩ := hp; exact ⟨_, rfl⟩)) ?_
 rintro _ w21 ⟨_, v19, he22, rfl, hp20⟩
 obtain ⟨ba1, bc1, Hb, rfl, hc2, hTb, hOw2⟩ := hp20
 injection he22 with he22; subst he22
 have hO23 := hO17.join hOw2
 have hS24 : Own w.heap.size w w21 ([some (lch b1 25 (fairL ga ba qa n gc m bc nq qc))]) := by first | exact hO23.sub sub_y1 | exact hO23.sub sub_y2 | exact hO23.sub sub_y3
 refine ⟨hS24, ?_⟩
 have hOp := hO23.perm (perm_mid2 _ Hb Hg _).symm
 rw [Nat.zero_add]
 refine rhl_v 7 rfl (by kernel_rfl) rfl rfl rfl hS24 (fun _ hS => ov_buildL rfl lay_25 rfl (us := [_, _, _]) rfl) ?_
 refine rhl_any1 8 (by kernel_rfl) ?_
 refine rcl_last rfl rfl (ow_storeW rfl rfl (by kernel_rfl) hOp 0 rfl rfl (by rfl) rfl (by rfl)) ?_
 rintro _ w25 ⟨rfl, hO26, hs27⟩
 refine rhl_done (by kernel_rfl) ?_
 refine run_ret Tryz.func21 (resW Tryz.results21 rfl Tryz.underlying25 rfl (by kernel_rfl) hO26 0 rfl) ?_
 exact ⟨ga1, ba1, qa1, gc1, bc1, qc1, Hb ++ (Hg ++ [cq]), rfl, fun B w0 w' hO => ⟨hTg.reads (H' := Hb ++ [cq]) (hO.perm (List.perm_append_comm_assoc _ _ _)), hTb.reads hO, hrq.reads (hO.perm (perm_mid2 cq Hb Hg []).symm) 0 rfl⟩, hO26.tail.sub ((((List.Sublist.refl [cq]).trans (.cons_cons _ (List.nil_sublist _))).append_left Hg).append_left Hb)⟩
set_option maxHeartbeats 8000000 in
theorem checks5_any (ga ba qa la : Option Addr) (n gc m bc nq qc ln lc : Nat) (GL BL : Int → Nat) (GE BE : Int → Int → Int) (q l : Int → Int) (w : World)
  (hG : RTab w.heap.size w ga n GL GE) (hB : RTab w.heap.size w ba m BL BE) (hQ : IAt w.heap.size w qa nq (fun i => iv (q i))) (hqc : nq ≤ qc) (hlc : ln ≤ lc) (hl : IAt w.heap.size w la ln (fun i => iv (l i))) :
  Calls Tryz.prog 5 #[.agg (fairL ga ba qa n gc m bc nq qc).toArray, .slice la ln lc] w fun e w' => e = .returned (.bool true) ∧ Below w.heap.size w w' := by
 refine calls_of_run (F := [(0, _), (1, _)]) Tryz.func5 rfl Tryz.ntmps5 rfl rfl ?_
 have hO0 := Own.init w
 refine run_seq <| run_region <| rl_ow rfl (ow_box _ rfl rfl rfl rfl rfl hO0) ?_
 rintro _ w1 ⟨b1, rfl, hO2, hs3⟩
 refine rl_v rfl rfl rfl (ov_assign rfl rfl) <| rl_nil <| run_seq <| run_region <| rl_v rfl rfl rfl (ov_loadW rfl Tryz.underlying25 rfl (by kernel_rfl) rfl hO2 0 rfl) ?_
 refine rl_call callable_21 rfl rfl rfl rfl rfl rfl (copied5_any ga ba qa n gc m bc nq qc GL BL GE BE q _ (hO2.rtab hG) (hO2.rtab hB) (hO2.iatF hQ) hqc) (fun e4 w5 hp6 => ?_)
 obtain ⟨ga1, ba1, qa1, gc1, bc1, qc1, H, rfl, hS, hO1⟩ := hp6
 refine ⟨_, rfl, ?_⟩
 have hO7 := hO2.join hO1
 obtain ⟨f, hf⟩ : ∃ f, f = cutF n m GL BL GE BE q := ⟨_, rfl⟩
 obtain ⟨nq1, hnq1⟩ : ∃ nq1, nq1 = min nq 70 := ⟨_, rfl⟩
 have hlg : Lg5 f nq1 := by
  rw [hf]
  exact ⟨by show min n 65 ≤ 1000000; omega, by show min m 65 ≤ 1000000; omega, by omega, fun r _ _ => by show min (GL r) 70 ≤ 1000000; omega, fun r _ _ => by show min (BL r) 70 ≤ 1000000; omega⟩
 rw [← hf, ← hnq1] at hS
 rw [← hf, ← hnq1]
 have hOa := hO7.sub (List.sublist_append_left _ _)
 refine rl_ow rfl (ow_alloc _ rfl rfl rfl zero_25 rfl hOa) ?_
 rintro _ w8 ⟨b5, rfl, hO9, hs10⟩
 refine rl_ow rfl (ow_storeW rfl rfl (by kernel_rfl) hO9 0 rfl rfl (by rfl) rfl (by rfl)) ?_
 rintro _ w11 ⟨rfl, hO12, hs13⟩
 refine rl_nil <| run_seq <| run_region <| rl_v rfl rfl rfl (ov_loadW rfl Tryz.underlying25 rfl (by kernel_rfl) rfl hO12 0 rfl) ?_
 refine rl_call callable_22 rfl rfl rfl rfl rfl rfl (refCheck5_any ga1 ba1 qa1 gc1 bc1 qc1 nq1 f _ hlg (hS.at hO12.tail)) (fun e14 w15 hp16 => ?_)
 obtain ⟨rfl, hb1⟩ := hp16
 refine ⟨_, rfl, ?_⟩
 have hO17 := hO12.past hb1
 refine rl_v rfl rfl rfl (ov_assign rfl rfl) <| rl_nil <| run_seq <| run_region <| rl_v rfl rfl rfl (ov_loadW rfl Tryz.underlying25 rfl (by kernel_rfl) rfl hO17 0 rfl) ?_
 refine rl_call callable_9 rfl rfl rfl rfl rfl rfl (give5_any ga1 ba1 qa1 f.n gc1 f.m bc1 nq1 qc1 _) (fun e18 w19 hp20 => ?_)
 obtain ⟨rfl, hb2⟩ := hp20
 refine ⟨_, rfl, ?_⟩
 have hO21 := hO17.past hb2
 refine rl_ow rfl (ow_alloc _ rfl rfl rfl zero_27 rfl hO21) ?_
 rintro _ w22 ⟨b7, rfl, hO23, hs24⟩
 refine rl_ow rfl (ow_storeW rfl rfl (by kernel_rfl) hO23 0 rfl rfl (by rfl) rfl (by rfl)) ?_
 rintro _ w25 ⟨rfl, hO26, hs27⟩
 refine rl_nil <| run_seq <| run_seq <| run_region <| rl_v rfl rfl rfl (ov_loadW rfl Tryz.underlying27 rfl (by kernel_rfl) rfl hO26 0 rfl) ?_
 refine rl_call callable_23 rfl rfl rfl rfl rfl rfl (check5_any ga1 ba1 qa1 gc1 bc1 qc1 nq1 f _ hlg.n hlg.m hlg.q hlg.gl hlg.bl (hS.at hO26.tail.tail)) (fun e28 w29 hp30 => ?_)
 obtain ⟨rfl, hb3⟩ := hp30
 refine ⟨_, rfl, ?_⟩
 have hO31 := hO26.past hb3
 refine rl_v rfl rfl rfl (ov_move rfl rfl) <| rl_v rfl rfl rfl (ov_neq rfl rfl rfl) <| rl_nil ?_
 first | refine run_cond_dec rfl (fun bad => ?_) (fun bad => ?_) | refine run_cond rfl (fun bad => ?_) (fun bad => ?_)
 ·exfalso; exact bad rfl
 ·refine run_skip <| run_seq <| run_seq <| run_region <| rl_v rfl rfl rfl (ov_move rfl rfl) <| rl_v rfl rfl rfl (ov_eql rfl rfl rfl) <| rl_nil ?_
  first | refine run_cond_dec rfl (fun h0 => ?_) (fun h0 => ?_) | refine run_cond rfl (fun h0 => ?_) (fun h0 => ?_)
  ·refine run_seq <| run_region ?_
   refine rl_call callable_15 rfl rfl rfl rfl rfl rfl (awake5_any sortRows_all _) (fun e32 w33 hp34 => ?_)
   obtain ⟨rfl, hb4⟩ := hp34
   refine ⟨_, rfl, ?_⟩
   have hO35 := hO31.past hb4
   refine rl_v rfl rfl rfl (ov_assign rfl rfl) <| rl_nil <| run_ret Tryz.func5 (res1 Tryz.results5 rfl) ?_
   exact ⟨rfl, hO35.below⟩
  ·have hOn := hO31.nil_cons
   refine run_skip <| run_seq <| run_region <| rl_v rfl rfl rfl (ov_assign rfl rfl) <| rl_nil <| run_seq <| run_region <| rl_v rfl rfl rfl (ov_move rfl rfl) <| rl_v rfl rfl rfl (ov_move rfl rfl) <| rl_v rfl rfl rfl (ov_move rfl rfl) <| rl_v rfl rfl rfl (ov_len rfl Tryz.underlying23 rfl) <| rl_v rfl rfl rfl (ov_min rfl rfl rfl) <| rl_v rfl rfl rfl (ov_sliceH (min ln 70) (s := 1) rfl Tryz.underlying23 (by kernel_rfl) rfl rfl (by omega) (by omega)) ?_
   refine rl_ow rfl (ow_appS rfl rfl rfl Tryz.underlying23 info_3 rfl hOn 0 (IRow.nil 3 (fun _ => iv 0)) rfl rfl rfl (((hOn.iatF hl).take (by omega))) (fun _ => rfl) ⟨by omega, by omega⟩) ?_
   rintro _ w36 ⟨v45, c5, rfl, hO37, hr45, hs38⟩
   obtain ⟨a45, cp45, rfl⟩ := Row.val hr45
   obtain ⟨cn, hcn⟩ : ∃ cn, cn = 0 + min ln 70 := ⟨_, rfl⟩
   have hrc : IRow (.slice a45 cn cp45) 3 cn (fun i => iv (l i)) c5 := by rw [hcn]; exact hr45.congr fun i i0 i1 => by unfold joinF; rw [if_neg (by omega)]; exact congrArg (fun j => iv (l j)) (by omega)
   rw [← hcn]
   refine rl_v rfl rfl rfl (ov_assign rfl rfl) <| rl_nil <| run_seq <| run_region <| rl_v rfl rfl rfl (ov_loadW rfl Tryz.underlying27 rfl (by kernel_rfl) rfl hO37 1 rfl) ?_
   refine rl_call callable_11 rfl rfl rfl rfl rfl rfl (growersBad_any ga1 ba1 qa1 gc1 bc1 qc1 nq1 f _ hlg (hS.at hO37.tail.tail.tail) h0) (fun e39 w40 hp41 => ?_)
   obtain ⟨rfl, hb5⟩ := hp41
   refine ⟨_, rfl, ?_⟩
   have hO42 := hO37.past hb5
   refine rl_v rfl rfl rfl (ov_move rfl rfl) <| rl_v rfl rfl rfl (ov_extract rfl rfl (by rfl)) ?_
   refine rl_v rfl rfl rfl (ov_extract rfl rfl (by rfl)) ?_
   refine rl_v rfl rfl rfl (ov_assign rfl rfl) <| rl_v rfl rfl rfl (ov_assign rfl rfl) <| rl_nil <| run_seq <| run_region <| rl_v rfl rfl rfl (ov_loadW rfl Tryz.underlying27 rfl (by kernel_rfl) rfl hO42 1 rfl) ?_
   refine rl_call callable_12 rfl rfl rfl rfl rfl rfl (brewersBad_any ga1 ba1 qa1 gc1 bc1 qc1 nq1 f _ hlg (hS.at hO42.tail.tail.tail) h0) (fun e43 w44 hp45 => ?_)
   obtain ⟨rfl, hb5⟩ := hp45
   refine ⟨_, rfl, ?_⟩
   have hO46 := hO42.past hb5
   have ejd : jdE f nq1 cn l = chkF f nq1 := if_pos h0
   have ejd0 : jdE f nq1 cn l ≠ 0 := by rw [ejd]; exact h0
   refine rl_v rfl rfl rfl (ov_move rfl rfl) <| rl_v rfl rfl rfl (ov_extract rfl rfl (by rfl)) ?_
   refine rl_v rfl rfl rfl (ov_extract rfl rfl (by rfl)) ?_
   refine rl_v rfl rfl rfl (ov_assign rfl rfl) <| rl_v rfl rfl rfl (ov_assign rfl rfl) <| rl_nil <| run_seq <| run_region <| rl_v rfl rfl rfl (ov_loadW rfl Tryz.underlying27 rfl (by kernel_rfl) rfl hO46 1 rfl) ?_
   refine rl_v rfl rfl rfl (ov_move rfl rfl) ?_
   refine rl_call callable_24 rfl rfl rfl rfl rfl rfl (blocksV_any ga1 ba1 qa1 a45 gc1 bc1 qc1 nq1 cn cp45 f l _ hlg (hS.at hO46.tail.tail.tail) (by omega) (hrc.reads hO46 0 rfl)) (fun e47 w48 hp49 => ?_)
   obtain ⟨aL, cL, c2, je, Lb, hje, hLb, rfl, hrL, hO2⟩ := hp49
   refine ⟨_, rfl, ?_⟩
   have hO50 := hO46.join hO2
   obtain rfl : je = chkF f nq1 := hje.trans ejd
   obtain rfl : Lb = [] := hLb.trans (if_neg ejd0)
   refine rl_v rfl rfl rfl (ov_move rfl rfl) <| rl_v rfl rfl rfl (ov_extract rfl rfl (by rfl)) ?_
   refine rl_v rfl rfl rfl (ov_extract rfl rfl (by rfl)) ?_
   refine rl_v rfl rfl rfl (ov_assign rfl rfl) <| rl_v rfl rfl rfl (ov_assign rfl rfl) <| rl_nil <| run_seq <| run_region <| rl_v rfl rfl rfl (ov_loadW rfl Tryz.underlying27 rfl (by kernel_rfl) rfl hO50 2 rfl) ?_
   refine rl_call callable_10 rfl rfl rfl rfl rfl rfl (allBad_any ga1 ba1 qa1 gc1 bc1 qc1 nq1 f _ hlg (hS.at hO50.tail.tail.tail.tail) h0 1) (fun e51 w52 hp53 => ?_)
   obtain ⟨rfl, hb5⟩ := hp53
   refine ⟨_, rfl, ?_⟩
   have hO54 := hO50.past hb5
   refine rl_v rfl rfl rfl (ov_move rfl rfl) <| rl_v rfl rfl rfl (ov_extract rfl rfl (by rfl)) ?_
   refine rl_v rfl rfl rfl (ov_extract rfl rfl (by rfl)) ?_
   refine rl_v rfl rfl rfl (ov_assign rfl rfl) <| rl_v rfl rfl rfl (ov_assign rfl rfl) <| rl_nil <| run_seq <| run_region <| rl_v rfl rfl rfl (ov_loadW rfl Tryz.underlying27 rfl (by kernel_rfl) rfl hO54 2 rfl) ?_
   refine rl_v rfl rfl rfl (ov_move rfl rfl) <| rl_v rfl rfl rfl (ov_move rfl rfl) ?_
   refine rl_call callable_25 rfl rfl rfl rfl rfl rfl (joinBad_any ga1 ba1 qa1 a45 a45 gc1 bc1 qc1 nq1 cn cp45 cn cp45 f _ hlg (hS.at hO54.tail.tail.tail.tail) h0) (fun e55 w56 hp57 => ?_)
   obtain ⟨rfl, hb5⟩ := hp57
   refine ⟨_, rfl, ?_⟩
   have hO58 := hO54.past hb5
   refine rl_v rfl rfl rfl (ov_move rfl rfl) <| rl_v rfl rfl rfl (ov_extract rfl rfl (by rfl)) ?_
   refine rl_v rfl rfl rfl (ov_extract rfl rfl (by rfl)) ?_
   refine rl_v rfl rfl rfl (ov_assign rfl rfl) <| rl_v rfl rfl rfl (ov_assign rfl rfl) <| rl_nil <| run_seq <| run_region <| rl_v rfl rfl rfl (ov_loadW rfl Tryz.underlying27 rfl (by kernel_rfl) rfl hO58 2 rfl) ?_
   refine rl_v rfl rfl rfl (ov_move rfl rfl) <| rl_v rfl rfl rfl (ov_move rfl rfl) ?_
   refine rl_call callable_26 rfl rfl rfl rfl rfl rfl (meetBad_any ga1 ba1 qa1 a45 a45 gc1 bc1 qc1 nq1 cn cp45 cn cp45 f _ hlg (hS.at hO58.tail.tail.tail.tail) h0) (fun e59 w60 hp61 => ?_)
   obtain ⟨rfl, hb5⟩ := hp61
   refine ⟨_, rfl, ?_⟩
   have hO62 := hO58.past hb5
   refine rl_v rfl rfl rfl (ov_move rfl rfl) <| rl_v rfl rfl rfl (ov_extract rfl rfl (by rfl)) ?_
   refine rl_v rfl rfl rfl (ov_extract rfl rfl (by rfl)) ?_
   refine rl_v rfl rfl rfl (ov_assign rfl rfl) <| rl_v rfl rfl rfl (ov_assign rfl rfl) <| rl_nil <| run_seq <| run_region <| rl_v rfl rfl rfl (ov_loadW rfl Tryz.underlying27 rfl (by kernel_rfl) rfl hO62 2 rfl) ?_
   refine rl_call callable_19 rfl rfl rfl rfl rfl rfl (certainBad_any ga1 ba1 qa1 gc1 bc1 qc1 nq1 f _ hlg (hS.at hO62.tail.tail.tail.tail) h0) (fun e63 w64 hp65 => ?_)
   obtain ⟨rfl, hb5⟩ := hp65
   refine ⟨_, rfl, ?_⟩
   have hO66 := hO62.past hb5
   refine rl_v rfl rfl rfl (ov_move rfl rfl) <| rl_v rfl rfl rfl (ov_extract rfl rfl (by rfl)) ?_
   refine rl_v rfl rfl rfl (ov_extract rfl rfl (by rfl)) ?_
   refine rl_v rfl rfl rfl (ov_assign rfl rfl) <| rl_v rfl rfl rfl (ov_assign rfl rfl) <| rl_nil <| run_seq <| run_region <| rl_v rfl rfl rfl (ov_loadW rfl Tryz.underlying27 rfl (by kernel_rfl) rfl hO66 2 rfl) ?_
   refine rl_v rfl rfl rfl (ov_move rfl rfl) ?_
   refine rl_call callable_27 rfl rfl rfl rfl rfl rfl (rankV_any ga1 ba1 qa1 a45 gc1 bc1 qc1 nq1 cn cp45 f l _ hlg (hS.at hO66.tail.tail.tail.tail) (by omega) (hrc.reads hO66 1 rfl)) (fun e67 w68 hp69 => ?_)
   obtain ⟨x, y, je2, hx, hy, hje2, rfl, hb6⟩ := hp69
   refine ⟨_, rfl, ?_⟩
   have hO70 := hO66.past hb6
   obtain rfl : je2 = chkF f nq1 := hje2.trans ejd
   obtain rfl : x = 0 := hx.trans (if_neg ejd0)
   obtain rfl : y = 0 := hy.trans (if_neg ejd0)
   have hnv : ¬ Valid5 f nq1 := fun h => h0 (chkF_0.2 h)
   refine rl_v rfl rfl rfl (ov_move rfl rfl) <| rl_v rfl rfl rfl (ov_extract rfl rfl (by rfl)) ?_
   refine rl_v rfl rfl rfl (ov_extract rfl rfl (by rfl)) ?_
   refine rl_v rfl rfl rfl (ov_extract rfl rfl (by rfl)) ?_
   refine rl_v rfl rfl rfl (ov_assign rfl rfl) <| rl_v rfl rfl rfl (ov_assign rfl rfl) <| rl_v rfl rfl rfl (ov_assign rfl rfl) <| rl_nil <| run_seq <| run_region <| rl_v rfl rfl rfl (ov_move rfl rfl) <| rl_v rfl rfl rfl (ov_move rfl rfl) <| rl_v rfl rfl rfl (ov_eql rfl rfl rfl) <| rl_v rfl rfl rfl (ov_move rfl rfl) <| rl_known 96 rfl (rfl) <| rl_gv rfl rfl rfl rfl rfl (ov_move rfl rfl) <| rl_gv rfl rfl rfl rfl rfl (ov_move rfl rfl) <| rl_gv rfl rfl rfl rfl rfl (ov_eql rfl rfl rfl) <| rl_v rfl rfl rfl (ov_pick_t rfl rfl rfl) <| rl_v rfl rfl rfl (ov_move rfl rfl) <| rl_known 101 rfl (rfl) <| rl_gv rfl rfl rfl rfl rfl (ov_move rfl rfl) <| rl_gv rfl rfl rfl rfl rfl (ov_move rfl rfl) <| rl_gv rfl rfl rfl rfl rfl (ov_eql rfl rfl rfl) <| rl_v rfl rfl rfl (ov_pick_t rfl rfl rfl) <| rl_v rfl rfl rfl (ov_move rfl rfl) <| rl_known 106 rfl (rfl) <| rl_gv rfl rfl rfl rfl rfl (ov_move rfl rfl) <| rl_gv rfl rfl rfl rfl rfl (ov_move rfl rfl) ?_
   refine rl_gv rfl rfl rfl rfl rfl (ov_eql rfl rfl rfl) <| rl_v rfl rfl rfl (ov_pick_t rfl rfl rfl) <| rl_v rfl rfl rfl (ov_move rfl rfl) <| rl_known 111 rfl (rfl) <| rl_gv rfl rfl rfl rfl rfl (ov_move rfl rfl) <| rl_gv rfl rfl rfl rfl rfl (ov_move rfl rfl) <| rl_gv rfl rfl rfl rfl rfl (ov_eql rfl rfl rfl) <| rl_v rfl rfl rfl (ov_pick_t rfl rfl rfl) <| rl_v rfl rfl rfl (ov_move rfl rfl) <| rl_known 116 rfl (rfl) <| rl_gv rfl rfl rfl rfl rfl (ov_move rfl rfl) <| rl_gv rfl rfl rfl rfl rfl (ov_move rfl rfl) <| rl_gv rfl rfl rfl rfl rfl (ov_eql rfl rfl rfl) <| rl_v rfl rfl rfl (ov_pick_t rfl rfl rfl) <| rl_v rfl rfl rfl (ov_move rfl rfl) <| rl_known 121 rfl (rfl) <| rl_gv rfl rfl rfl rfl rfl (ov_move rfl rfl) <| rl_gv rfl rfl rfl rfl rfl (ov_move rfl rfl) <| rl_gv rfl rfl rfl rfl rfl (ov_eql rfl rfl rfl) <| rl_v rfl rfl rfl (ov_pick_t rfl rfl rfl) <| rl_v rfl rfl rfl (ov_move rfl rfl) ?_
   refine rl_known 126 rfl (rfl) <| rl_gv rfl rfl rfl rfl rfl (ov_move rfl rfl) <| rl_gv rfl rfl rfl rfl rfl (ov_move rfl rfl) <| rl_gv rfl rfl rfl rfl rfl (ov_eql rfl rfl rfl) <| rl_v rfl rfl rfl (ov_pick_t rfl rfl rfl) <| rl_v rfl rfl rfl (ov_move rfl rfl) <| rl_known 131 rfl (rfl) <| rl_gv rfl rfl rfl rfl rfl (ov_move rfl rfl) <| rl_gv rfl rfl rfl rfl rfl (ov_len rfl Tryz.underlying23 rfl) <| rl_gv rfl rfl rfl rfl rfl (ov_eql rfl rfl rfl) <| rl_v rfl rfl rfl (ov_pick_t rfl rfl rfl) <| rl_v rfl rfl rfl (ov_move rfl rfl) <| rl_known 136 rfl (rfl) <| rl_gv rfl rfl rfl rfl rfl (ov_move rfl rfl) <| rl_gv rfl rfl rfl rfl rfl (ov_len rfl Tryz.underlying23 rfl) <| rl_gv rfl rfl rfl rfl rfl (ov_eql rfl rfl rfl) <| rl_v rfl rfl rfl (ov_pick_t rfl rfl rfl) <| rl_v rfl rfl rfl (ov_move rfl rfl) <| rl_known 141 rfl (rfl) <| rl_gv rfl rfl rfl rfl rfl (ov_move rfl rfl) <| rl_gv rfl rfl rfl rfl rfl (ov_len rfl Tryz.underlying41 rfl) ?_
   refine rl_gv rfl rfl rfl rfl rfl (ov_eql rfl rfl rfl) <| rl_v rfl rfl rfl (ov_pick_t rfl rfl rfl) <| rl_v rfl rfl rfl (ov_move rfl rfl) <| rl_known 146 rfl (rfl) <| rl_gv rfl rfl rfl rfl rfl (ov_move rfl rfl) <| rl_gv rfl rfl rfl rfl rfl (ov_len rfl Tryz.underlying22 rfl) <| rl_gv rfl rfl rfl rfl rfl (ov_eql rfl rfl rfl) <| rl_v rfl rfl rfl (ov_pick_t rfl rfl rfl) <| rl_v rfl rfl rfl (ov_move rfl rfl) <| rl_known 151 rfl (rfl) <| rl_gv rfl rfl rfl rfl rfl (ov_move rfl rfl) <| rl_gv rfl rfl rfl rfl rfl (ov_len rfl Tryz.underlying23 rfl) <| rl_gv rfl rfl rfl rfl rfl (ov_eql rfl rfl rfl) <| rl_v rfl rfl rfl (ov_pick_t rfl rfl rfl) <| rl_v rfl rfl rfl (ov_move rfl rfl) <| rl_known 156 rfl (rfl) <| rl_gv rfl rfl rfl rfl rfl (ov_move rfl rfl) <| rl_gv rfl rfl rfl rfl rfl (ov_len rfl Tryz.underlying23 rfl) <| rl_gv rfl rfl rfl rfl rfl (ov_eql rfl rfl rfl) <| rl_v rfl rfl rfl (ov_pick_t rfl rfl rfl) ?_
   refine rl_v rfl rfl rfl (ov_move rfl rfl) <| rl_known 161 rfl (rfl) <| rl_gv rfl rfl rfl rfl rfl (ov_move rfl rfl) <| rl_gv rfl rfl rfl rfl rfl (ov_len rfl Tryz.underlying41 rfl) <| rl_gv rfl rfl rfl rfl rfl (ov_eql rfl rfl rfl) <| rl_v rfl rfl rfl (ov_pick_t rfl rfl rfl) <| rl_v rfl rfl rfl (ov_move rfl rfl) <| rl_known 166 rfl (rfl) <| rl_gv rfl rfl rfl rfl rfl (ov_move rfl rfl) <| rl_gv rfl rfl rfl rfl rfl (ov_eql rfl rfl rfl) <| rl_v rfl rfl rfl (ov_pick_t rfl rfl rfl) <| rl_v rfl rfl rfl (ov_move rfl rfl) <| rl_known 170 rfl (rfl) <| rl_gv rfl rfl rfl rfl rfl (ov_move rfl rfl) <| rl_gv rfl rfl rfl rfl rfl (ov_eql rfl rfl rfl) <| rl_v rfl rfl rfl (ov_pick_t rfl rfl rfl) <| rl_v rfl rfl rfl (ov_move rfl rfl) <| rl_known 174 rfl (rfl) <| rl_gv rfl rfl rfl rfl rfl (ov_loadW rfl Tryz.underlying27 rfl (by kernel_rfl) rfl hO70 2 rfl) ?_
   refine rl_gv rfl rfl rfl rfl rfl (ov_move rfl rfl) ?_
   refine rl_gcall callable_28 rfl rfl rfl rfl rfl rfl rfl rfl (possibleP_any ga1 ba1 qa1 a45 gc1 bc1 qc1 nq1 cn cp45 f l _ hlg (hS.at hO70.tail.tail.tail.tail) (by omega) (hrc.reads hO70 1 rfl)) (fun e71 w72 hp73 => ?_)
   obtain ⟨⟨y1, rfl, hy1⟩, hb7⟩ := hp73
   refine ⟨_, rfl, ?_⟩
   have hO74 := hO70.past hb7
   obtain rfl : y1 = false := by cases y1; rfl; exact absurd (hy1.1 rfl).1 hnv
   refine rl_gv rfl rfl rfl rfl rfl (ov_not rfl rfl) <| rl_v rfl rfl rfl (ov_pick_t rfl rfl rfl) <| rl_v rfl rfl rfl (ov_move rfl rfl) ?_
   first | refine rl_yesD 180 rfl (rfl) ?_ | refine rl_yes 180 rfl (rfl) ?_
   refine rl_gv rfl rfl rfl rfl rfl (ov_loadW rfl Tryz.underlying27 rfl (by kernel_rfl) rfl hO74 2 rfl) ?_
   refine rl_gv rfl rfl rfl rfl rfl (ov_move rfl rfl) ?_
   refine rl_gcall callable_29 rfl rfl rfl rfl rfl rfl rfl rfl (stableP_any ga1 ba1 qa1 a45 gc1 bc1 qc1 nq1 cn cp45 f l _ hlg (hS.at hO74.tail.tail.tail.tail) (by omega) (hrc.reads hO74 1 rfl)) (fun e75 w76 hp77 => ?_)
   obtain ⟨⟨y2, rfl, hy2⟩, hb8⟩ := hp77
   refine ⟨_, rfl, ?_⟩
   have hO78 := hO74.past hb8
   obtain rfl : y2 = false := by cases y2; rfl; exact absurd (hy2.1 rfl).1 hnv
   refine rl_gv rfl rfl rfl rfl rfl (ov_not rfl rfl) <| rl_v rfl rfl rfl (ov_pick_t rfl rfl rfl) <| rl_v rfl rfl rfl (ov_move rfl rfl) ?_
   first | refine rl_yesD 186 rfl (rfl) ?_ | refine rl_yes 186 rfl (rfl) ?_
   refine rl_gcall callable_15 rfl rfl rfl rfl rfl rfl rfl rfl (awake5_any sortRows_all _) (fun e79 w80 hp81 => ?_)
   obtain ⟨rfl, hb9⟩ := hp81
   refine ⟨_, rfl, ?_⟩
   have hO82 := hO78.past hb9
   refine rl_v rfl rfl rfl (ov_pick_t rfl rfl rfl) <| rl_v rfl rfl rfl (ov_assign rfl rfl) <| rl_nil <| run_ret Tryz.func5 (res1 Tryz.results5 rfl) ?_
   exact ⟨rfl, hO82.below⟩
end Go.Proofs.YtlldeifbfpmbaaaGreat
