import Derived.Test.YtfbbagnpdfafjaaHaP
set_option maxRecDepth 100000
namespace Go.Proofs.Ytfbbagnpdfafjaa
open Go.RowKit Go.Proofs
def HM.dvr (X : HM) (c : Ct) : Int := if X.par c ≠ 0 then X.par c else if (X.acct c.b).pos c.m < c.q ∨ -c.q < (X.acct c.s).pos c.m then 9 else 0
def HM.dvB (X : HM) (c : Ct) : HA := { X.acct c.b with pos := upd (X.acct c.b).pos c.m ((X.acct c.b).pos c.m - c.q) }
def HM.dvS (X : HM) (c : Ct) : HA := { X.acct c.s with pos := upd (X.acct c.s).pos c.m ((X.acct c.s).pos c.m + c.q) }
def HM.deliver (X : HM) (c : Ct) : HM := if X.dvr c = 0 then (X.setA c.b (X.dvB c)).setA c.s (X.dvS c) else X
theorem deliver_any (hb B : Nat) (X : HM) (i o m q : Int) (Pl R : List (Option Blk)) (w0 w : World) (h : HAt B w0 w hb X Pl R) (hG : HG X) :
  Calls Try.prog 28 #[ptr hb, iv i, iv o, iv m, iv q] w fun e w' => e = .returned (iv (X.dvr ⟨i, o, m, q, 1⟩)) ∧ HAt B w0 w' hb (X.deliver ⟨i, o, m, q, 1⟩) Pl R := by
 obtain ⟨K, N, hO, hK, hPl⟩ := h
 refine calls_of_run (F := [(0, _), (1, _), (2, _), (3, _), (4, _)]) Try.func28 rfl Try.ntmps28 rfl rfl <| run_seq <| run_region <| rl_v rfl rfl rfl (ov_assign rfl rfl) <| rl_nil <| run_seq <| run_region <| rl_v rfl rfl rfl (ov_move rfl rfl) <| rl_v rfl rfl rfl (ov_move rfl rfl) <| rl_v rfl rfl rfl (ov_move rfl rfl) <| rl_v rfl rfl rfl (ov_move rfl rfl) <| rl_v rfl rfl rfl (ov_move rfl rfl) <| rl_v rfl rfl rfl (ov_buildL rfl lay_45 rfl (us := [_, _, _, _, _]) rfl) ?_
 refine rl_call callable_64 rfl rfl rfl rfl rfl rfl (parties_any hb B X K ⟨i, o, m, q, 1⟩ N _ w0 w hO 0 1 rfl rfl hK hG) (fun e1 w2 hp3 => ?_)
 obtain ⟨p1, p2, rfl, hpp, hO2⟩ := hp3
 refine ⟨_, rfl, ?_⟩
 refine rl_v rfl rfl rfl (ov_move rfl rfl) <| rl_v rfl rfl rfl (ov_extract rfl rfl (by rfl)) ?_
 refine rl_v rfl rfl rfl (ov_extract rfl rfl (by rfl)) ?_
 refine rl_v rfl rfl rfl (ov_extract rfl rfl (by rfl)) ?_
 refine rl_v rfl rfl rfl (ov_assign rfl rfl) <| rl_v rfl rfl rfl (ov_assign rfl rfl) <| rl_v rfl rfl rfl (ov_assign rfl rfl) <| rl_nil <| run_seq <| run_seq <| run_region <| rl_v rfl rfl rfl (ov_move rfl rfl) <| rl_v rfl rfl rfl (ov_neq rfl rfl rfl) <| rl_nil ?_
 first | refine run_cond_dec rfl (fun hc => ?_) (fun hc => ?_) | refine run_cond rfl (fun hc => ?_) (fun hc => ?_)
 ·have et : X.dvr ⟨i, o, m, q, 1⟩ = X.par ⟨i, o, m, q, 1⟩ := if_pos hc
  have ex : X.deliver ⟨i, o, m, q, 1⟩ = X := if_neg (by rw [et]; exact hc)
  refine run_seq <| run_region <| rl_v rfl rfl rfl (ov_move rfl rfl) <| rl_v rfl rfl rfl (ov_assign rfl rfl) <| rl_nil <| run_ret Try.func28 (res1 Try.results28 rfl) ?_
  exact ⟨by rw [et]; rfl, by rw [ex]; exact ⟨K, N, hO2, hK, hPl⟩⟩
 ·have hc0 : X.par ⟨i, o, m, q, 1⟩ = 0 := by omega
  obtain ⟨rfl, rfl, hP⟩ := hpp hc0
  have et : X.dvr ⟨i, o, m, q, 1⟩ = if (X.acct i).pos m < q ∨ -q < (X.acct o).pos m then 9 else 0 := if_neg (by rw [hc0]; decide)
  have hmo := hG.mo
  have hmem := hG.mem
  have hPm : 0 ≤ m ∧ m < X.mo := hP.m
  have hPb : 1 ≤ i ∧ i ≤ X.mem := hP.b
  have hPs : 1 ≤ o ∧ o ≤ X.mem := hP.s
  have hPq : 1 ≤ q ∧ q ≤ 1000000 := hP.q
  have hne : i ≠ o := hP.ne
  have hm0 : 0 ≤ m := hPm.1
  have hm1 : m < 12 := by omega
  have hpb : ((X.acct i).pos m).natAbs ≤ 1000000 := hG.pos (i - 1) (by omega) (by omega) m hm0 hm1
  have hps : ((X.acct o).pos m).natAbs ≤ 1000000 := hG.pos (o - 1) (by omega) (by omega) m hm0 hm1
  refine run_skip <| run_seq <| run_seq <| run_region <| rl_v rfl rfl rfl (ov_move rfl rfl) <| rl_v rfl rfl rfl (ov_move rfl rfl) <| rl_v rfl rfl rfl (ov_nil rfl rfl) <| rl_v rfl rfl rfl (ov_fieldS rfl Try.underlying127 rfl (fo := 2) rfl (by kernel_rfl) rfl) ?_
  refine rl_v rfl rfl rfl (ov_indexA1 rfl Try.underlying118 (by kernel_rfl) rfl rfl ⟨by omega, by omega⟩) ?_
  refine rl_v rfl rfl rfl (ov_load rfl Try.underlying2 rfl rfl (by exact (show _ = some (iv ((X.acct i).pos m)) from hK.readPos hO2 1 rfl (i := i - 1) (by omega) (by omega) hm0 hm1))) ?_
  refine rl_v rfl rfl rfl (ov_move rfl rfl) <| rl_v rfl rfl rfl (ov_lss rfl rfl rfl) <| rl_v rfl rfl rfl (ov_move rfl rfl) ?_
  first | refine rl_split_dec 36 rfl (fun d1 => ?_) (fun d1 => ?_) | refine rl_split 36 rfl (fun d1 => ?_) (fun d1 => ?_)
  ·refine rl_gskip rfl rfl rfl rfl rfl rfl <| rl_gskip rfl rfl rfl rfl rfl rfl <| rl_gskip rfl rfl rfl rfl rfl rfl <| rl_gskip rfl rfl rfl rfl rfl rfl <| rl_gskip rfl rfl rfl rfl rfl rfl <| rl_gskip rfl rfl rfl rfl rfl rfl <| rl_gskip rfl rfl rfl rfl rfl rfl <| rl_gskip rfl rfl rfl rfl rfl rfl <| rl_gskip rfl rfl rfl rfl rfl rfl <| rl_v rfl rfl rfl (ov_pick_t rfl rfl rfl) <| rl_nil <| run_cond_t rfl ?_
   have e9 : X.dvr ⟨i, o, m, q, 1⟩ = 9 := et.trans (if_pos (.inl d1))
   have ex : X.deliver ⟨i, o, m, q, 1⟩ = X := if_neg (by rw [e9]; decide)
   refine run_seq <| run_region <| rl_v rfl rfl rfl (ov_assign rfl rfl) <| rl_nil <| run_ret Try.func28 (res1 Try.results28 rfl) ?_
   exact ⟨by rw [e9], by rw [ex]; exact ⟨K, N, hO2, hK, hPl⟩⟩
  ·refine rl_gv rfl rfl rfl rfl rfl (ov_move rfl rfl) <| rl_gv rfl rfl rfl rfl rfl (ov_move rfl rfl) <| rl_gv rfl rfl rfl rfl rfl (ov_nil rfl rfl) <| rl_gv rfl rfl rfl rfl rfl (ov_fieldS rfl Try.underlying127 rfl (fo := 2) rfl (by kernel_rfl) rfl) ?_
   refine rl_gv rfl rfl rfl rfl rfl (ov_indexA1 rfl Try.underlying118 (by kernel_rfl) rfl rfl ⟨by omega, by omega⟩) ?_
   refine rl_gv rfl rfl rfl rfl rfl (ov_load rfl Try.underlying2 rfl rfl (by exact (show _ = some (iv ((X.acct o).pos m)) from hK.readPos hO2 1 rfl (i := o - 1) (by omega) (by omega) hm0 hm1))) ?_
   refine rl_gv rfl rfl rfl rfl rfl (ov_move rfl rfl) <| rl_gv rfl rfl rfl rfl rfl (ov_neg rfl rfl (by omega)) ?_
   refine rl_gv rfl rfl rfl rfl rfl (ov_gtr rfl rfl rfl) <| rl_v rfl rfl rfl (ov_pick_f rfl rfl rfl) <| rl_nil ?_
   first | refine run_cond_dec rfl (fun d2 => ?_) (fun d2 => ?_) | refine run_cond rfl (fun d2 => ?_) (fun d2 => ?_)
   ·have e9 : X.dvr ⟨i, o, m, q, 1⟩ = 9 := et.trans (if_pos (.inr d2))
    have ex : X.deliver ⟨i, o, m, q, 1⟩ = X := if_neg (by rw [e9]; decide)
    refine run_seq <| run_region <| rl_v rfl rfl rfl (ov_assign rfl rfl) <| rl_nil <| run_ret Try.func28 (res1 Try.results28 rfl) ?_
    exact ⟨by rw [e9], by rw [ex]; exact ⟨K, N, hO2, hK, hPl⟩⟩
   ·have e0 : X.dvr ⟨i, o, m, q, 1⟩ = 0 := et.trans (if_neg fun h => h.elim d1 d2)
    have ex : X.deliver ⟨i, o, m, q, 1⟩ = (X.setA i (X.dvB ⟨i, o, m, q, 1⟩)).setA o (X.dvS ⟨i, o, m, q, 1⟩) := if_pos e0
    refine run_skip <| run_seq <| run_tail 11 mixed (by kernel_rfl) ?_
    have hO6 := hO2.drew
    generalize World.drew w2 = w5 at hO6 ⊢
    refine rt_v rfl rfl rfl (ov_move rfl rfl) <| rt_v rfl rfl rfl (ov_move rfl rfl) <| rt_v rfl rfl rfl (ov_nil rfl rfl) <| rt_v rfl rfl rfl (ov_fieldS rfl Try.underlying127 rfl (fo := 2) rfl (by kernel_rfl) rfl) ?_
    refine rt_v rfl rfl rfl (ov_indexA1 rfl Try.underlying118 (by kernel_rfl) rfl rfl ⟨by omega, by omega⟩) ?_
    refine rt_v rfl rfl rfl (ov_load rfl Try.underlying2 rfl rfl (by exact (show _ = some (iv ((X.acct i).pos m)) from hK.readPos hO6 1 rfl (i := i - 1) (by omega) (by omega) hm0 hm1))) ?_
    refine rt_v rfl rfl rfl (ov_move rfl rfl) <| rt_v rfl rfl rfl (ov_sub rfl rfl rfl (by omega)) ?_
    refine rt_v rfl rfl rfl (ov_nil rfl rfl) <| rt_v rfl rfl rfl (ov_fieldS rfl Try.underlying127 rfl (fo := 2) rfl (by kernel_rfl) rfl) ?_
    refine rt_v rfl rfl rfl (ov_indexA1 rfl Try.underlying118 (by kernel_rfl) rfl rfl ⟨by omega, by omega⟩) ?_
    refine rt_nil <| rl_ow rfl (ow_storePos rfl rfl (by kernel_rfl) hO6 1 (G := X.ac) (i := i - 1) (m := m) hK.acc rfl rfl ⟨by omega, by omega⟩ ⟨hm0, hm1⟩ rfl) ?_
    rintro _ w7 ⟨c1, rfl, hO8, hr1, hs9⟩
    have hso : upd X.ac (i - 1) { X.ac (i - 1) with pos := upd (X.ac (i - 1)).pos m ((X.acct i).pos m - q) } (o - 1) = X.acct o := upd_ne _ _ (by omega)
    refine rl_nil <| run_seq <| run_tail 11 mixed (by kernel_rfl) ?_
    have hO11 := hO8.drew
    generalize World.drew w7 = w10 at hO11 ⊢
    refine rt_v rfl rfl rfl (ov_move rfl rfl) <| rt_v rfl rfl rfl (ov_move rfl rfl) <| rt_v rfl rfl rfl (ov_nil rfl rfl) <| rt_v rfl rfl rfl (ov_fieldS rfl Try.underlying127 rfl (fo := 2) rfl (by kernel_rfl) rfl) ?_
    refine rt_v rfl rfl rfl (ov_indexA1 rfl Try.underlying118 (by kernel_rfl) rfl rfl ⟨by omega, by omega⟩) ?_
    refine rt_v rfl rfl rfl (ov_load rfl Try.underlying2 rfl rfl (by exact (rowPos hr1 hO11 1 rfl (i := o - 1) (by omega) (by omega) hm0 hm1).trans (congrArg (fun a : HA => some (iv (a.pos m))) hso))) ?_
    refine rt_v rfl rfl rfl (ov_move rfl rfl) <| rt_v rfl rfl rfl (ov_add rfl rfl rfl (by omega)) ?_
    refine rt_v rfl rfl rfl (ov_nil rfl rfl) <| rt_v rfl rfl rfl (ov_fieldS rfl Try.underlying127 rfl (fo := 2) rfl (by kernel_rfl) rfl) ?_
    refine rt_v rfl rfl rfl (ov_indexA1 rfl Try.underlying118 (by kernel_rfl) rfl rfl ⟨by omega, by omega⟩) ?_
    refine rt_nil <| rl_ow rfl (ow_storePos rfl rfl (by kernel_rfl) hO11 1 (i := o - 1) (m := m) hr1 rfl rfl ⟨by omega, by omega⟩ ⟨hm0, hm1⟩ rfl) ?_
    rintro _ w12 ⟨c2, rfl, hO13, hr2, hs14⟩
    rw [hso] at hr2
    refine rl_nil <| run_seq <| run_region <| rl_v rfl rfl rfl (ov_assign rfl rfl) <| rl_nil <| run_ret Try.func28 (res1 Try.results28 rfl) ?_
    exact ⟨by rw [e0], by rw [ex]; exact ⟨{ K with blk := c2 }, N, hO13, ⟨hr2, hK.mv, hK.ct, hK.cz, hK.cc⟩, hPl⟩⟩
def HM.mar (X : HM) (i : Int) : Int := if X.is i then X.need (X.acct i) else 0
def HM.non (X : HM) (i : Int) : Int := if X.is i then 0 else 4
theorem HOk.mvs {X : HM} {K : HK} {N R : List (Option Blk)} (hK : HOk X K N) (L : List (Option Blk)) : SrcS (L ++ (N ++ R)) K.ma 12 X.k (fun i => monL (X.mv i)) := fun B w0 w hO => hK.mv B w0 w ((hO.sub (List.sublist_append_right _ _)).sub (List.sublist_append_left _ _))
theorem margin2_any (hb B : Nat) (X : HM) (i : Int) (Pl R : List (Option Blk)) (w0 w : World) (h : HAt B w0 w hb X Pl R) (hG : HG X) :
  Calls Try.prog 24 #[ptr hb, iv i] w fun e w' => e = .returned (.tuple #[iv (X.mar i), iv (X.non i)]) ∧ HAt B w0 w' hb X Pl R := by
 obtain ⟨K, N, hO, hK, hPl⟩ := h
 refine calls_of_run (F := [(0, _), (1, _)]) Try.func24 rfl Try.ntmps24 rfl rfl <| run_seq <| run_region <| rl_v rfl rfl rfl (ov_assign rfl rfl) <| rl_v rfl rfl rfl (ov_assign rfl rfl) <| rl_nil <| run_seq <| run_region <| rl_v rfl rfl rfl (ov_move rfl rfl) <| rl_v rfl rfl rfl (ov_move rfl rfl) ?_
 refine rl_call callable_62 rfl rfl rfl rfl rfl rfl (known_any hb B X K i N _ w0 w hO 0 1 rfl rfl hK hG) (fun e1 w2 hp3 => ?_)
 obtain ⟨rfl, hO1⟩ := hp3
 refine ⟨_, rfl, ?_⟩
 refine rl_v rfl rfl rfl (ov_move rfl rfl) <| rl_v rfl rfl rfl (ov_extract rfl rfl (by rfl)) ?_
 refine rl_v rfl rfl rfl (ov_extract rfl rfl (by rfl)) ?_
 refine rl_ow rfl (ow_alloc _ rfl rfl rfl zero_127 rfl hO1) ?_
 rintro _ w4 ⟨b6, rfl, hO5, hs6⟩
 refine rl_ow rfl (ow_storeW rfl rfl (by kernel_rfl) hO5 0 rfl rfl (by rfl) rfl (by rfl)) ?_
 rintro _ w7 ⟨rfl, hO8, hs9⟩
 refine rl_v rfl rfl rfl (ov_assign rfl rfl) <| rl_nil <| run_seq <| run_seq <| run_region <| rl_v rfl rfl rfl (ov_move rfl rfl) <| rl_v rfl rfl rfl (ov_neq rfl rfl rfl) <| rl_nil ?_
 first | refine run_cond_dec rfl (fun c => ?_) (fun c => ?_) | refine run_cond rfl (fun c => ?_) (fun c => ?_)
 ·have hi : ¬ X.is i := fun h => c (if_pos h)
  refine run_seq <| run_region <| rl_v rfl rfl rfl (ov_move rfl rfl) <| rl_v rfl rfl rfl (ov_assign rfl rfl) <| rl_v rfl rfl rfl (ov_assign rfl rfl) <| rl_nil <| run_ret Try.func24 (res2 Try.results24 rfl rfl) ?_
  exact ⟨by unfold HM.mar HM.non; rw [if_neg hi, if_neg hi]; rfl, K, N, hO8.tail, hK, hPl⟩
 ·have hi : X.is i := Classical.byContradiction fun h => c (by rw [if_neg h]; decide)
  have hi2 : 1 ≤ i ∧ i ≤ X.mem := hi
  have ek : X.kno i = X.acct i := if_pos hi
  refine run_skip <| run_seq <| run_region <| rl_v rfl rfl rfl (ov_move rfl rfl) <| rl_v rfl rfl rfl (ov_loadW rfl Try.underlying127 rfl (by kernel_rfl) rfl hO8 0 rfl) ?_
  refine rl_call callable_63 rfl rfl rfl rfl rfl rfl (need_any hb B 1 (X.r K) X.mv (X.kno i) _ w0 w7 hO8 rfl (hK.mvs [_, _, _]) (hG.bd K) (by rw [ek]; exact (hG.pos (i - 1) (by omega) (by omega)).mono (by decide)) hG.pbd) (fun e10 w11 hp12 => ?_)
  obtain ⟨rfl, hO2⟩ := hp12
  refine ⟨_, rfl, ?_⟩
  refine rl_v rfl rfl rfl (ov_assign rfl rfl) <| rl_v rfl rfl rfl (ov_assign rfl rfl) <| rl_nil <| run_ret Try.func24 (res2 Try.results24 rfl rfl) ?_
  exact ⟨by unfold HM.mar HM.non; rw [if_pos hi, if_pos hi, ek]; rfl, K, N, hO2.tail, hK, hPl⟩
def wstF (f : Int → Int) : Nat → Int × Int
 | 0 => (-1, 0)
 | k + 1 => if (wstF f k).2 < f k then ((k : Int), f k) else wstF f k
def HM.hasM (X : HM) (m : Int) : Prop := 0 ≤ m ∧ m < X.mo
instance (X : HM) (m : Int) : Decidable (X.hasM m) := by unfold HM.hasM; exact inferInstance
def HM.pric (X : HM) (m : Int) : Int := if X.hasM m then X.pr m else 0
def HM.nom (X : HM) (m : Int) : Int := if X.hasM m then 0 else 4
theorem price_any (hb B : Nat) (X : HM) (m : Int) (Pl R : List (Option Blk)) (w0 w : World) (h : HAt B w0 w hb X Pl R) (hG : HG X) :
  Calls Try.prog 20 #[ptr hb, iv m] w fun e w' => e = .returned (.tuple #[iv (X.pric m), iv (X.nom m)]) ∧ HAt B w0 w' hb X Pl R := by
 obtain ⟨K, N, hO, hK, hPl⟩ := h
 have hmo := hG.mo
 refine calls_of_run (F := [(0, _), (1, _)]) Try.func20 rfl Try.ntmps20 rfl rfl <| run_seq <| run_region <| rl_v rfl rfl rfl (ov_assign rfl rfl) <| rl_v rfl rfl rfl (ov_assign rfl rfl) <| rl_nil <| run_seq <| run_seq <| run_region <| rl_v rfl rfl rfl (ov_move rfl rfl) <| rl_v rfl rfl rfl (ov_ptrnil rfl Try.underlying30 rfl) <| rl_nil <| run_cond_f rfl <| run_skip <| run_seq <| run_seq <| run_region <| rl_v rfl rfl rfl (ov_move rfl rfl) <| rl_v rfl rfl rfl (ov_lss rfl rfl rfl) <| rl_v rfl rfl rfl (ov_move rfl rfl) ?_
 first | refine rl_split_dec 10 rfl (fun g1 => ?_) (fun g1 => ?_) | refine rl_split 10 rfl (fun g1 => ?_) (fun g1 => ?_)
 ·refine rl_gskip rfl rfl rfl rfl rfl rfl <| rl_gskip rfl rfl rfl rfl rfl rfl <| rl_gskip rfl rfl rfl rfl rfl rfl <| rl_gskip rfl rfl rfl rfl rfl rfl <| rl_gskip rfl rfl rfl rfl rfl rfl <| rl_gskip rfl rfl rfl rfl rfl rfl <| rl_v rfl rfl rfl (ov_pick_t rfl rfl rfl) <| rl_nil <| run_cond_t rfl ?_
  have hm : ¬ X.hasM m := fun h => by have := h.1; omega
  refine run_seq <| run_region <| rl_v rfl rfl rfl (ov_assign rfl rfl) <| rl_v rfl rfl rfl (ov_assign rfl rfl) <| rl_nil <| run_ret Try.func20 (res2 Try.results20 rfl rfl) ?_
  exact ⟨by unfold HM.pric HM.nom; rw [if_neg hm, if_neg hm], K, N, hO, hK, hPl⟩
 ·refine rl_gv rfl rfl rfl rfl rfl (ov_move rfl rfl) <| rl_gv rfl rfl rfl rfl rfl (ov_move rfl rfl) <| rl_gv rfl rfl rfl rfl rfl (ov_nil rfl rfl) <| rl_gv rfl rfl rfl rfl rfl (ov_fieldS rfl Try.underlying124 rfl (fo := 0) rfl (by kernel_rfl) rfl) ?_
  refine rl_gv rfl rfl rfl rfl rfl (ov_load rfl Try.underlying3 rfl rfl (by exact (show _ = some (iv X.mo) from hO.cellL 0 rfl (off := 0) rfl))) ?_
  refine rl_gv rfl rfl rfl rfl rfl (ov_geq rfl rfl rfl) <| rl_v rfl rfl rfl (ov_pick_f rfl rfl rfl) <| rl_nil ?_
  first | refine run_cond_dec rfl (fun g2 => ?_) (fun g2 => ?_) | refine run_cond rfl (fun g2 => ?_) (fun g2 => ?_)
  ·have hm : ¬ X.hasM m := fun h => by have := h.2; omega
   refine run_seq <| run_region <| rl_v rfl rfl rfl (ov_assign rfl rfl) <| rl_v rfl rfl rfl (ov_assign rfl rfl) <| rl_nil <| run_ret Try.func20 (res2 Try.results20 rfl rfl) ?_
   exact ⟨by unfold HM.pric HM.nom; rw [if_neg hm, if_neg hm], K, N, hO, hK, hPl⟩
  ·have hm : X.hasM m := ⟨by omega, by omega⟩
   refine run_skip <| run_seq <| run_region <| rl_v rfl rfl rfl (ov_move rfl rfl) <| rl_v rfl rfl rfl (ov_move rfl rfl) <| rl_v rfl rfl rfl (ov_nil rfl rfl) <| rl_v rfl rfl rfl (ov_fieldS rfl Try.underlying124 rfl (fo := 1) rfl (by kernel_rfl) rfl) ?_
   refine rl_v rfl rfl rfl (ov_indexA1 rfl Try.underlying118 (by kernel_rfl) rfl rfl ⟨by omega, by omega⟩) ?_
   refine rl_v rfl rfl rfl (ov_load rfl Try.underlying2 rfl rfl (by exact (show _ = some (iv (X.pr m)) from hO.cellL 0 rfl (off := 1 + m.toNat) ((X.r K).pr_at (by omega) (by omega))))) ?_
   refine rl_v rfl rfl rfl (ov_assign rfl rfl) <| rl_v rfl rfl rfl (ov_assign rfl rfl) <| rl_nil <| run_ret Try.func20 (res2 Try.results20 rfl rfl) ?_
   exact ⟨by unfold HM.pric HM.nom; rw [if_pos hm, if_pos hm], K, N, hO, hK, hPl⟩
def HM.hasC (X : HM) (n : Int) : Prop := 1 ≤ n ∧ n ≤ X.n
instance (X : HM) (n : Int) : Decidable (X.hasC n) := by unfold HM.hasC; exact inferInstance
def HM.total (X : HM) : Int := X.cap - X.hole + sm (fun j => (X.ac j).cash + (X.ac j).fund) X.mem
theorem total_any (hb B : Nat) (X : HM) (Pl R : List (Option Blk)) (w0 w : World) (h : HAt B w0 w hb X Pl R) (hG : HG X) :
  Calls Try.prog 30 #[ptr hb] w fun e w' => e = .returned (iv X.total) ∧ HAt B w0 w' hb X Pl R := by
 obtain ⟨K, N, hO, hK, hPl⟩ := h
 have hmem := hG.mem
 have hcap := hG.cap
 have hhole := hG.hole
 have hbd : ∀ k : Int, 0 ≤ k → k ≤ X.mem → -(k * ((20000000000000000 : Nat) : Int)) ≤ sm (fun j => (X.ac j).cash + (X.ac j).fund) k ∧ sm (fun j => (X.ac j).cash + (X.ac j).fund) k ≤ k * ((20000000000000000 : Nat) : Int) := fun k k0 k1 => sm_abs _ k0 fun i i0 i1 => by
  have h1 := hG.cash i i0 (by omega)
  have h2 := hG.fund i i0 (by omega)
  omega
 refine calls_of_run (F := [(0, _)]) Try.func30 rfl Try.ntmps30 rfl rfl <| run_seq <| run_region <| rl_v rfl rfl rfl (ov_assign rfl rfl) <| rl_nil <| run_seq <| run_seq <| run_region <| rl_v rfl rfl rfl (ov_move rfl rfl) <| rl_v rfl rfl rfl (ov_ptrnil rfl Try.underlying30 rfl) <| rl_nil <| run_cond_f rfl ?_
 have hs0 : sm (fun j => (X.ac j).cash + (X.ac j).fund) 0 = 0 := rfl
 refine run_skip <| run_seq <| run_quiet mixed (by kernel_rfl) ?_
 refine rq_v rfl rfl rfl (fun _ => ov_move rfl rfl) ?_
 refine rq_v rfl rfl rfl (fun _ => ov_nil rfl rfl) ?_
 refine rq_v rfl rfl rfl (fun _ => ov_fieldS rfl Try.underlying124 rfl (fo := 15) rfl (by kernel_rfl) rfl) ?_
 refine rq_v rfl rfl rfl (fun _ => ov_load rfl Try.underlying2 rfl rfl (by show World.cell? w _ = _; first | exact (show _ = some (iv X.cap) from hO.cellL 0 rfl (off := 15) rfl))) ?_
 refine rq_v rfl rfl rfl (fun _ => ov_move rfl rfl) ?_
 refine rq_v rfl rfl rfl (fun _ => ov_nil rfl rfl) ?_
 refine rq_v rfl rfl rfl (fun _ => ov_fieldS rfl Try.underlying124 rfl (fo := 16) rfl (by kernel_rfl) rfl) ?_
 refine rq_v rfl rfl rfl (fun _ => ov_load rfl Try.underlying2 rfl rfl (by show World.cell? w _ = _; first | exact (show _ = some (iv X.hole) from hO.cellL 0 rfl (off := 16) rfl))) ?_
 refine rq_v rfl rfl rfl (fun _ => ov_sub rfl rfl rfl (by omega)) ?_
 refine rq_v rfl rfl rfl (fun _ => ov_assign rfl rfl) ?_
 refine rq_nil (fun n1 => ?_)
 have hO3 := hO.drewN n1
 generalize World.drewN w n1 = w2 at hO3 ⊢
 refine run_seq <| run_seq <| run_region <| rl_v rfl rfl rfl (ov_move rfl rfl) <| rl_v rfl rfl rfl (ov_nil rfl rfl) <| rl_v rfl rfl rfl (ov_fieldS rfl Try.underlying124 rfl (fo := 17) rfl (by kernel_rfl) rfl) ?_
 refine rl_v rfl rfl rfl (ov_load rfl Try.underlying120 rfl rfl (by exact hO3.cellL 0 rfl (off := 17) rfl)) ?_
 refine rl_v rfl rfl rfl (ov_len rfl Try.underlying120 rfl) <| rl_v rfl rfl rfl (ov_move rfl rfl) <| rl_nil <| run_block <| Run.keep [3, 20, 21, 22] (F' := [(3, _), (20, _), (21, _), (22, _)]) rfl <| run_loop1 (fun (j : Int) => [(3, .int .i64 (X.cap - X.hole + sm (fun j => (X.ac j).cash + (X.ac j).fund) j)), (22, .int .i64 j)]) [20, 21] (fun (j : Int) (w4 : World) => (0 ≤ j ∧ j ≤ X.mem) ∧ Own B w0 w4 (houB hb (X.r K) :: K.blk :: (N ++ R))) (fun (j : Int) => ((X.mem : Int) - j).toNat) (0) ?_ (And.intro (by exact slot_int rfl (by first | omega)) (And.intro (by exact slot_int rfl (by first | omega)) (And.intro rfl (And.intro rfl trivial)))) ?_
 ·exact ⟨by omega, hO3⟩
 intro j w4 hIw4 ih5
 obtain ⟨hj, hO3⟩ := hIw4
 show Run _ _ _ _ [(3, _), (22, _), (20, _), (21, _)] _ _
 refine run_seq <| run_region <| rl_v rfl rfl rfl (ov_lss rfl rfl rfl) <| rl_nil <| run_seq ?_
 first | refine run_cond_dec rfl (fun h1 => ?_) (fun h1 => ?_) | refine run_cond rfl (fun h1 => ?_) (fun h1 => ?_)
 ·have h1' : j < (X.mem : Int) := h1
  refine run_skip <| run_seq <| run_block <| run_seq <| run_region <| rl_v rfl rfl rfl (ov_index rfl Try.underlying120 (by kernel_rfl) (s := 15) rfl rfl ⟨hj.1, h1'⟩ rfl) ?_
  refine rl_v rfl rfl rfl (ov_loadE rfl Try.underlying127 rfl (by kernel_rfl) rfl ⟨by omega, by omega⟩ rfl (hK.reads hO3 1 rfl)) ?_
  refine rl_ow rfl (ow_alloc _ rfl rfl rfl zero_127 rfl hO3) ?_
  rintro _ w6 ⟨b5, rfl, hO7, hs8⟩
  refine rl_ow rfl (ow_storeW rfl rfl (by kernel_rfl) hO7 0 rfl rfl (by rfl) rfl (by rfl)) ?_
  rintro _ w9 ⟨rfl, hO10, hs11⟩
  have hb1 := hbd j hj.1 hj.2
  have hca := hG.cash j hj.1 h1'
  have hfu := hG.fund j hj.1 h1'
  have hsu := sm_succ (fun j => (X.ac j).cash + (X.ac j).fund) (k := j) hj.1
  refine rl_nil <| run_region <| rl_v rfl rfl rfl (ov_move rfl rfl) <| rl_v rfl rfl rfl (ov_fieldS rfl Try.underlying127 rfl (fo := 0) rfl (by kernel_rfl) rfl) ?_
  refine rl_v rfl rfl rfl (ov_load rfl Try.underlying2 rfl rfl (by exact (show _ = some (iv (X.ac j).cash) from hO10.cellL 0 rfl (off := 0) rfl))) ?_
  refine rl_v rfl rfl rfl (ov_fieldS rfl Try.underlying127 rfl (fo := 1) rfl (by kernel_rfl) rfl) ?_
  refine rl_v rfl rfl rfl (ov_load rfl Try.underlying2 rfl rfl (by exact (show _ = some (iv (X.ac j).fund) from hO10.cellL 0 rfl (off := 1) rfl))) ?_
  refine rl_v rfl rfl rfl (ov_add rfl rfl rfl (by omega)) ?_
  refine rl_v rfl rfl rfl (ov_add rfl rfl rfl (by omega)) ?_
  refine rl_v rfl rfl rfl (ov_assign rfl rfl) <| rl_nil <| run_inBlock <| run_region <| rl_v rfl rfl rfl (ov_add rfl rfl rfl (by omega)) ?_
  refine rl_v rfl rfl rfl (ov_move rfl rfl) <| rl_nil ?_
  refine Run.use (ih5 (j + 1) _ ?_ ?_) (And.intro (by exact slot_int rfl (by first | omega)) (And.intro (by exact slot_int rfl (by first | omega)) (And.intro rfl (And.intro rfl trivial))))
  ·first | omega | (dsimp only; omega)
  ·exact ⟨by omega, hO10.tail⟩
 ·have h1' : ¬ j < (X.mem : Int) := h1
  obtain rfl : j = X.mem := by omega
  refine run_exit rfl <| run_seq <| run_region <| rl_v rfl rfl rfl (ov_move rfl rfl) <| rl_v rfl rfl rfl (ov_assign rfl rfl) <| rl_nil <| run_ret Try.func30 (res1 Try.results30 rfl) ?_
  exact ⟨rfl, K, N, hO3, hK, hPl⟩
end Go.Proofs.Ytfbbagnpdfafjaa
