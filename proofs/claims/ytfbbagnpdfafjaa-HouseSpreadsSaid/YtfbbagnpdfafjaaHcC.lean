import Derived.Test.YtfbbagnpdfafjaaHcB
set_option maxRecDepth 100000
namespace Go.Proofs.Ytfbbagnpdfafjaa
open Go.RowKit Go.Proofs
theorem HB.gg {j : Nat} {X : HM} (h : HB j X) (hj : j ≤ 100) : GG X := ⟨h.hg hj, h.mo.1, h.posz⟩
def GNew (B : Nat) (w0 w : World) (v : Value) (X : HM) (R H : List (Option Blk)) : Prop := ∃ K pb ab cb qb, v = .agg (ghL X K).toArray ∧ GRo R X K pb ab cb qb ∧ Own B w0 w (GL X pb ab cb qb H)
def GSame (B : Nat) (w0 w : World) (v : Value) (X : HM) (K : GK) (H : List (Option Blk)) : Prop := v = .agg (ghL X K).toArray ∧ Own B w0 w H
theorem gMoney_any (X : HM) (K : GK) (i a : Int) (R : List (Option Blk)) (B : Nat) (H : List (Option Blk)) (w0 w : World) (hO : Own B w0 w H) (hK : GIn R X K) (hs : R.Sublist H) (hX : GG X) :
  Calls Try.prog 116 #[.agg (ghL X K).toArray, iv i, iv a] w fun e w' => e = .returned (iv (X.mny i a)) ∧ Own B w0 w' H := by
 have hmem := hX.g.mem
 obtain ⟨ab, ao, ea, ra⟩ := hK.av.at (by decide) (hO.sub hs) (by omega)
 refine calls_of_run (F := [(0, _), (1, _), (2, _)]) Try.func116 rfl Try.ntmps116 rfl rfl <| run_seq <| run_region <| rl_ow rfl (ow_box _ rfl rfl rfl rfl rfl hO) ?_
 rintro _ w1 ⟨b3, rfl, hO2, hs3⟩
 refine rl_v rfl rfl rfl (ov_assign rfl rfl) <| rl_nil <| run_seq <| run_block <| run_seq <| run_region <| rl_v rfl rfl rfl (ov_loadW rfl Try.underlying34 rfl (by kernel_rfl) rfl hO2 0 rfl) ?_
 refine rl_v rfl rfl rfl (ov_move rfl rfl) ?_
 refine rl_call callable_36 rfl rfl rfl rfl rfl rfl (gMember_any X K i B _ w0 w1 hO2) (fun e4 w5 hp6 => ?_)
 obtain ⟨rfl, hO1⟩ := hp6
 refine ⟨_, rfl, ?_⟩
 refine rl_v rfl rfl rfl (ov_not rfl rfl) <| rl_v rfl rfl rfl (ov_assign rfl rfl) <| rl_nil ?_
 first | refine run_cond_dec rfl (fun c1 => ?_) (fun c1 => ?_) | refine run_cond rfl (fun c1 => ?_) (fun c1 => ?_)
 ·have ea4 : X.act i = 4 := if_neg (ndt c1)
  have em := mny_act (X := X) (i := i) (a := a) (by rw [ea4]; decide)
  refine run_seq <| run_region <| rl_v rfl rfl rfl (ov_assign rfl rfl) <| rl_nil <| run_ret Try.func116 (res1 Try.results116 rfl) ?_
  exact ⟨by rw [em, ea4], hO1.tail⟩
 ·have hi : X.is i := ndf c1
  have hi2 : 1 ≤ i ∧ i ≤ X.mem := hi
  refine run_seq <| run_region <| rl_v rfl rfl rfl (ov_fieldS rfl Try.underlying34 rfl (fo := 7) rfl (by kernel_rfl) rfl) ?_
  refine rl_v rfl rfl rfl (ov_load rfl Try.underlying31 rfl rfl (by exact hO1.cellL 0 rfl (off := 7) rfl)) ?_
  refine rl_v rfl rfl rfl (ov_move rfl rfl) <| rl_v rfl rfl rfl (ov_sub rfl rfl rfl (by omega)) ?_
  refine rl_v rfl rfl rfl (ov_index rfl Try.underlying31 (by kernel_rfl) (s := 4) rfl rfl ⟨by omega, by omega⟩ (by exact (id ea))) ?_
  refine rl_v rfl rfl rfl (ov_fieldS rfl Try.underlying49 rfl (fo := 3) rfl (by kernel_rfl) rfl) ?_
  refine rl_v rfl rfl rfl (ov_load rfl Try.underlying4 rfl rfl (by exact (show _ = some (.bool (X.acct i).out) from ra (hO1.sub (.cons _ hs)) (i - 1) (by omega) (by omega) 3 (by decide)))) ?_
  refine rl_v rfl rfl rfl (ov_assign rfl rfl) <| rl_nil ?_
  first | refine run_cond_dec rfl (fun o1 => ?_) (fun o1 => ?_) | refine run_cond rfl (fun o1 => ?_) (fun o1 => ?_)
  ·have ea5 : X.act i = 5 := (if_pos hi).trans (if_pos o1)
   have em := mny_act (X := X) (i := i) (a := a) (by rw [ea5]; decide)
   refine run_seq <| run_region <| rl_v rfl rfl rfl (ov_assign rfl rfl) <| rl_nil <| run_ret Try.func116 (res1 Try.results116 rfl) ?_
   exact ⟨by rw [em, ea5], hO1.tail⟩
  ·have ea0 : X.act i = 0 := (if_pos hi).trans (if_neg (by rw [o1]; exact Bool.noConfusion))
   have em := mny_ok (a := a) ea0
   refine run_seq <| run_region <| rl_v rfl rfl rfl (ov_move rfl rfl) <| rl_v rfl rfl rfl (ov_lss rfl rfl rfl) <| rl_v rfl rfl rfl (ov_move rfl rfl) ?_
   first | refine rl_split_dec 23 rfl (fun q1 => ?_) (fun q1 => ?_) | refine rl_split 23 rfl (fun q1 => ?_) (fun q1 => ?_)
   ·refine rl_gskip rfl rfl rfl rfl rfl rfl <| rl_gskip rfl rfl rfl rfl rfl rfl <| rl_v rfl rfl rfl (ov_pick_t rfl rfl rfl) <| rl_v rfl rfl rfl (ov_assign rfl rfl) <| rl_nil <| run_cond_t rfl ?_
    have e1 : X.mny i a = 1 := em.trans (if_neg fun h => by omega)
    refine run_seq <| run_region <| rl_v rfl rfl rfl (ov_assign rfl rfl) <| rl_nil <| run_ret Try.func116 (res1 Try.results116 rfl) ?_
    exact ⟨by rw [e1], hO1.tail⟩
   ·refine rl_gv rfl rfl rfl rfl rfl (ov_move rfl rfl) <| rl_gv rfl rfl rfl rfl rfl (ov_gtr rfl rfl rfl) <| rl_v rfl rfl rfl (ov_pick_f rfl rfl rfl) <| rl_v rfl rfl rfl (ov_assign rfl rfl) <| rl_nil ?_
    first | refine run_cond_dec rfl (fun q2 => ?_) (fun q2 => ?_) | refine run_cond rfl (fun q2 => ?_) (fun q2 => ?_)
    ·have e1 : X.mny i a = 1 := em.trans (if_neg fun h => by omega)
     refine run_seq <| run_region <| rl_v rfl rfl rfl (ov_assign rfl rfl) <| rl_nil <| run_ret Try.func116 (res1 Try.results116 rfl) ?_
     exact ⟨by rw [e1], hO1.tail⟩
    ·have e1 : X.mny i a = 0 := em.trans (if_pos (by omega))
     refine run_skip <| run_inBlock <| run_seq <| run_region <| rl_v rfl rfl rfl (ov_assign rfl rfl) <| rl_nil <| run_ret Try.func116 (res1 Try.results116 rfl) ?_
     exact ⟨by rw [e1], hO1.tail⟩
theorem gDeposit_any (X : HM) (K : GK) (i a : Int) (R : List (Option Blk)) (j B : Nat) (H : List (Option Blk)) (w0 w : World) (hO : Own B w0 w H) (hK : GIn R X K) (hs : R.Sublist H) (hX : HB j X) (hj : j < 100) :
  Calls Try.prog 74 #[.agg (ghL X K).toArray, iv i, iv a] w fun e w' => ∃ v, e = .returned (.tuple #[v, iv (X.mny i a)]) ∧ ((X.mny i a = 0 ∧ GNew B w0 w' v (X.deposit i a) R H) ∨ (X.mny i a ≠ 0 ∧ GSame B w0 w' v X K H)) := by
 have hg := hX.gg (by omega)
 have hmem := hX.mem
 refine calls_of_run (F := [(0, _), (1, _), (2, _)]) Try.func74 rfl Try.ntmps74 rfl rfl <| run_seq <| run_region <| rl_ow rfl (ow_box _ rfl rfl rfl rfl rfl hO) ?_
 rintro _ w1 ⟨b3, rfl, hO2, hs3⟩
 refine rl_ow rfl (ow_alloc _ rfl rfl rfl zero_34 rfl hO2) ?_
 rintro _ w4 ⟨b6, rfl, hO5, hs6⟩
 refine rl_v rfl rfl rfl (ov_assign rfl rfl) <| rl_nil <| run_seq <| run_seq <| run_region <| rl_v rfl rfl rfl (ov_loadW rfl Try.underlying34 rfl (by kernel_rfl) rfl hO5 1 rfl) ?_
 refine rl_v rfl rfl rfl (ov_move rfl rfl) <| rl_v rfl rfl rfl (ov_move rfl rfl) ?_
 refine rl_call callable_116 rfl rfl rfl rfl rfl rfl (gMoney_any X K i a R B _ w0 w4 hO5 hK (.cons _ (.cons _ hs)) hg) (fun e7 w8 hp9 => ?_)
 obtain ⟨rfl, hO1⟩ := hp9
 refine ⟨_, rfl, ?_⟩
 refine rl_v rfl rfl rfl (ov_assign rfl rfl) <| rl_nil <| run_seq <| run_region <| rl_v rfl rfl rfl (ov_move rfl rfl) <| rl_v rfl rfl rfl (ov_neq rfl rfl rfl) <| rl_nil ?_
 first | refine run_cond_dec rfl (fun c1 => ?_) (fun c1 => ?_) | refine run_cond rfl (fun c1 => ?_) (fun c1 => ?_)
 ·refine run_seq <| run_region <| rl_v rfl rfl rfl (ov_loadW rfl Try.underlying34 rfl (by kernel_rfl) rfl hO1 1 rfl) ?_
  refine rl_v rfl rfl rfl (ov_move rfl rfl) <| rl_ow rfl (ow_storeW rfl rfl (by kernel_rfl) hO1 0 rfl rfl (by rfl) rfl (by rfl)) ?_
  rintro _ w10 ⟨rfl, hO11, hs12⟩
  refine rl_v rfl rfl rfl (ov_assign rfl rfl) <| rl_nil <| run_ret Try.func74 (resW2 Try.results74 rfl rfl Try.underlying34 rfl (by kernel_rfl) hO11 0 rfl) ?_
  exact ⟨_, rfl, .inr ⟨c1, rfl, hO11.tail.tail⟩⟩
 ·have c0 : X.mny i a = 0 := by omega
  obtain ⟨h1, a0, a1⟩ := mny_zero c0
  obtain ⟨hi, ho⟩ := act_zero h1
  have hca := hX.cash (i - 1) (by omega) (by omega)
  have hca2 : (X.acct i).cash.natAbs ≤ 10000000000000 * j := hca
  have ex : X.deposit i a = X.setA i { X.acct i with cash := (X.acct i).cash + a } := if_pos c0
  refine run_skip <| run_seq <| run_region <| rl_v rfl rfl rfl (ov_loadW rfl Try.underlying34 rfl (by kernel_rfl) rfl hO1 1 rfl) ?_
  refine rl_call callable_118 rfl rfl rfl rfl rfl rfl (gFork_any X K R B _ w0 w8 hO1 hK (.cons _ (.cons _ hs)) hg) (fun e13 w14 hp15 => ?_)
  obtain ⟨L, pb, ab, cb, qb, rfl, hL, hO2⟩ := hp15
  refine ⟨_, rfl, ?_⟩
  refine rl_v rfl rfl rfl (ov_move rfl rfl) <| rl_v rfl rfl rfl (ov_move rfl rfl) ?_
  refine rl_call callable_117 rfl rfl rfl rfl rfl rfl (gCash_any X L i a R pb ab cb qb B _ w0 w14 hO2 hL hi (by omega) (by omega)) (fun e16 w17 hp18 => ?_)
  obtain ⟨rfl, ab2, hL2, hO3⟩ := hp18
  refine ⟨_, rfl, ?_⟩
  have hO4 : Own B w0 w17 ((pb :: ab2 :: cb :: (List.range X.mem).map qb) ++ (some (lch b6 34 _) :: some (lch b3 34 (ghL X K)) :: H)) := hO3
  have hO5 := hO4.perm List.perm_middle
  refine rl_ow rfl (ow_storeW rfl rfl (by kernel_rfl) hO5 0 rfl rfl (by rfl) rfl (by rfl)) ?_
  rintro _ w19 ⟨rfl, hO20, hs21⟩
  have hO6 := hO20.tail.sub (List.Sublist.append_left (.cons _ (.refl _)) _)
  refine rl_v rfl rfl rfl (ov_assign rfl rfl) <| rl_nil <| run_ret Try.func74 (resW2 Try.results74 rfl rfl Try.underlying34 rfl (by kernel_rfl) hO20 0 rfl) ?_
  exact ⟨_, by rw [c0], .inl ⟨c0, L, pb, ab2, cb, qb, by rw [ex]; rfl, by rw [ex]; exact hL2, by rw [ex]; exact hO6⟩⟩
theorem gWithdraw_any (X : HM) (K : GK) (i a : Int) (R : List (Option Blk)) (j B : Nat) (H : List (Option Blk)) (w0 w : World) (hO : Own B w0 w H) (hK : GIn R X K) (hs : R.Sublist H) (hX : HB j X) (hj : j < 100) :
  Calls Try.prog 75 #[.agg (ghL X K).toArray, iv i, iv a] w fun e w' => ∃ v, e = .returned (.tuple #[v, iv (X.spd i a)]) ∧ ((X.spd i a = 0 ∧ GNew B w0 w' v (X.spent i a) R H) ∨ (X.spd i a ≠ 0 ∧ GSame B w0 w' v X K H)) := by
 have hg := hX.gg (by omega)
 have hmem := hX.mem
 obtain ⟨ab0, ao, ea, ra⟩ := hK.av.at (by decide) (hO.sub hs) (by omega)
 refine calls_of_run (F := [(0, _), (1, _), (2, _)]) Try.func75 rfl Try.ntmps75 rfl rfl <| run_seq <| run_region <| rl_ow rfl (ow_box _ rfl rfl rfl rfl rfl hO) ?_
 rintro _ w1 ⟨b3, rfl, hO2, hs3⟩
 refine rl_ow rfl (ow_alloc _ rfl rfl rfl zero_34 rfl hO2) ?_
 rintro _ w4 ⟨b6, rfl, hO5, hs6⟩
 refine rl_v rfl rfl rfl (ov_assign rfl rfl) <| rl_nil <| run_seq <| run_seq <| run_region <| rl_v rfl rfl rfl (ov_loadW rfl Try.underlying34 rfl (by kernel_rfl) rfl hO5 1 rfl) ?_
 refine rl_v rfl rfl rfl (ov_move rfl rfl) <| rl_v rfl rfl rfl (ov_move rfl rfl) ?_
 refine rl_call callable_116 rfl rfl rfl rfl rfl rfl (gMoney_any X K i a R B _ w0 w4 hO5 hK (.cons _ (.cons _ hs)) hg) (fun e7 w8 hp9 => ?_)
 obtain ⟨rfl, hO1⟩ := hp9
 refine ⟨_, rfl, ?_⟩
 refine rl_v rfl rfl rfl (ov_assign rfl rfl) <| rl_nil <| run_seq <| run_region <| rl_v rfl rfl rfl (ov_move rfl rfl) <| rl_v rfl rfl rfl (ov_neq rfl rfl rfl) <| rl_nil ?_
 first | refine run_cond_dec rfl (fun c1 => ?_) (fun c1 => ?_) | refine run_cond rfl (fun c1 => ?_) (fun c1 => ?_)
 ·have es : X.spd i a = X.mny i a := if_pos c1
  refine run_seq <| run_region <| rl_v rfl rfl rfl (ov_loadW rfl Try.underlying34 rfl (by kernel_rfl) rfl hO1 1 rfl) ?_
  refine rl_v rfl rfl rfl (ov_move rfl rfl) <| rl_ow rfl (ow_storeW rfl rfl (by kernel_rfl) hO1 0 rfl rfl (by rfl) rfl (by rfl)) ?_
  rintro _ w10 ⟨rfl, hO11, hs12⟩
  refine rl_v rfl rfl rfl (ov_assign rfl rfl) <| rl_nil <| run_ret Try.func75 (resW2 Try.results75 rfl rfl Try.underlying34 rfl (by kernel_rfl) hO11 0 rfl) ?_
  exact ⟨_, by rw [es], .inr ⟨by rw [es]; exact c1, rfl, hO11.tail.tail⟩⟩
 ·have c0 : X.mny i a = 0 := by omega
  have es : X.spd i a = if (X.acct i).cash < a then 9 else if X.need (X.acct i) ≤ (X.acct i).cash - a then 0 else 90 := if_neg (by rw [c0]; decide)
  obtain ⟨h1, a0, a1⟩ := mny_zero c0
  obtain ⟨hi, ho⟩ := act_zero h1
  have hca := hX.cash (i - 1) (by omega) (by omega)
  have hca2 : (X.acct i).cash.natAbs ≤ 10000000000000 * j := hca
  have hfu2 : 0 ≤ (X.acct i).fund ∧ (X.acct i).fund ≤ 10000000000000 * j := hX.fund (i - 1) (by omega) (by omega)
  refine run_skip <| run_seq <| run_seq <| run_region <| rl_v rfl rfl rfl (ov_fieldS rfl Try.underlying34 rfl (fo := 7) rfl (by kernel_rfl) rfl) ?_
  refine rl_v rfl rfl rfl (ov_load rfl Try.underlying31 rfl rfl (by exact hO1.cellL 1 rfl (off := 7) rfl)) ?_
  refine rl_v rfl rfl rfl (ov_move rfl rfl) <| rl_v rfl rfl rfl (ov_sub rfl rfl rfl (by omega)) ?_
  refine rl_v rfl rfl rfl (ov_index rfl Try.underlying31 (by kernel_rfl) (s := 4) rfl rfl ⟨by omega, by omega⟩ (by exact (id ea))) ?_
  refine rl_v rfl rfl rfl (ov_fieldS rfl Try.underlying49 rfl (fo := 0) rfl (by kernel_rfl) rfl) ?_
  refine rl_v rfl rfl rfl (ov_load rfl Try.underlying2 rfl rfl (by exact (show _ = some (iv (X.acct i).cash) from ra (hO1.sub (.cons _ (.cons _ hs))) (i - 1) (by omega) (by omega) 0 (by decide)))) ?_
  refine rl_v rfl rfl rfl (ov_move rfl rfl) <| rl_v rfl rfl rfl (ov_lss rfl rfl rfl) <| rl_nil ?_
  first | refine run_cond_dec rfl (fun c2 => ?_) (fun c2 => ?_) | refine run_cond rfl (fun c2 => ?_) (fun c2 => ?_)
  ·have e9 : X.spd i a = 9 := es.trans (if_pos c2)
   refine run_seq <| run_region <| rl_v rfl rfl rfl (ov_loadW rfl Try.underlying34 rfl (by kernel_rfl) rfl hO1 1 rfl) ?_
   refine rl_ow rfl (ow_storeW rfl rfl (by kernel_rfl) hO1 0 rfl rfl (by rfl) rfl (by rfl)) ?_
   rintro _ w13 ⟨rfl, hO14, hs15⟩
   refine rl_v rfl rfl rfl (ov_assign rfl rfl) <| rl_nil <| run_ret Try.func75 (resW2 Try.results75 rfl rfl Try.underlying34 rfl (by kernel_rfl) hO14 0 rfl) ?_
   exact ⟨_, by rw [e9], .inr ⟨by rw [e9]; decide, rfl, hO14.tail.tail⟩⟩
  ·refine run_skip <| run_seq <| run_region <| rl_v rfl rfl rfl (ov_loadW rfl Try.underlying34 rfl (by kernel_rfl) rfl hO1 1 rfl) ?_
   refine rl_call callable_118 rfl rfl rfl rfl rfl rfl (gFork_any X K R B _ w0 w8 hO1 hK (.cons _ (.cons _ hs)) hg) (fun e16 w17 hp18 => ?_)
   obtain ⟨L, pb, ab, cb, qb, rfl, hL, hO2⟩ := hp18
   refine ⟨_, rfl, ?_⟩
   refine rl_v rfl rfl rfl (ov_move rfl rfl) <| rl_v rfl rfl rfl (ov_move rfl rfl) <| rl_v rfl rfl rfl (ov_neg rfl rfl (by omega)) ?_
   refine rl_call callable_117 rfl rfl rfl rfl rfl rfl (gCash_any X L i (-a) R pb ab cb qb B _ w0 w17 hO2 hL hi (by omega) (by omega)) (fun e19 w20 hp21 => ?_)
   obtain ⟨rfl, ab2, hL2, hO3⟩ := hp21
   refine ⟨_, rfl, ?_⟩
   refine rl_ow rfl (ow_alloc _ rfl rfl rfl zero_34 rfl hO3) ?_
   rintro _ w22 ⟨b9, rfl, hO23, hs24⟩
   refine rl_ow rfl (ow_storeW rfl rfl (by kernel_rfl) hO23 0 rfl rfl (by rfl) rfl (by rfl)) ?_
   rintro _ w25 ⟨rfl, hO26, hs27⟩
   have hY : HB (j + 1) (X.setA i { X.acct i with cash := (X.acct i).cash + -a }) := hX.setA hi rfl ho (by show ((X.acct i).cash + -a).natAbs ≤ _; omega) (by show 0 ≤ (X.acct i).fund ∧ (X.acct i).fund ≤ _; omega)
   have hs2 : R.Sublist (some (lch b6 34 (ghL ⟨0, 0, fun _ => 0, 0, fun _ _ => 0, 0, 0, 0, fun _ => HA.z, 0, fun _ => Ct.z⟩ ⟨0, 0, 0, none, 0, 0, none, 0, none, 0, none, 0, none, 0, fun _ => none, fun _ => 0, fun _ => none, fun _ => 0⟩)) :: some (lch b3 34 (ghL X K)) :: H) := .cons _ (.cons _ hs)
   have hgin := hL2.gin hs2
   have eacct : (X.setA i { X.acct i with cash := (X.acct i).cash + -a }).acct i = { X.acct i with cash := (X.acct i).cash + -a } := setA_acct _ _ _
   have hcov : X.spd i a = if X.need (X.acct i) ≤ (X.acct i).cash + -a then 0 else 90 := es.trans (if_neg c2)
   refine rl_nil <| run_seq <| run_seq <| run_region <| rl_v rfl rfl rfl (ov_loadW rfl Try.underlying34 rfl (by kernel_rfl) rfl hO26 0 rfl) ?_
   refine rl_v rfl rfl rfl (ov_move rfl rfl) ?_
   refine rl_call callable_119 rfl rfl rfl rfl rfl rfl (gCovered_any (X.setA i { X.acct i with cash := (X.acct i).cash + -a }) L i _ B _ w0 w25 hO26 hgin (.cons _ (.refl _)) (hY.gg (by omega)) hi) (fun e28 w29 hp30 => ?_)
   obtain ⟨rfl, hO4⟩ := hp30
   refine ⟨_, rfl, ?_⟩
   rw [eacct]
   have hO4b : Own B w0 w29 ((some (lch b9 34 (ghL X L)) :: pb :: ab2 :: cb :: (List.range X.mem).map qb) ++ (some (lch b6 34 _) :: some (lch b3 34 (ghL X K)) :: H)) := hO4
   have hO5 := hO4b.perm (List.perm_middle.trans (.cons _ List.perm_middle))
   refine rl_v rfl rfl rfl (ov_not rfl rfl) <| rl_nil ?_
   first | refine run_cond_dec rfl (fun c3 => ?_) (fun c3 => ?_) | refine run_cond rfl (fun c3 => ?_) (fun c3 => ?_)
   ·have e90 : X.spd i a = 90 := hcov.trans (if_neg (ndt c3))
    refine run_seq <| run_region <| rl_v rfl rfl rfl (ov_loadW rfl Try.underlying34 rfl (by kernel_rfl) rfl hO5 1 rfl) ?_
    refine rl_ow rfl (ow_storeW rfl rfl (by kernel_rfl) hO5 0 rfl rfl (by rfl) rfl (by rfl)) ?_
    rintro _ w31 ⟨rfl, hO32, hs33⟩
    refine rl_v rfl rfl rfl (ov_assign rfl rfl) <| rl_nil <| run_ret Try.func75 (resW2 Try.results75 rfl rfl Try.underlying34 rfl (by kernel_rfl) hO32 0 rfl) ?_
    exact ⟨_, by rw [e90], .inr ⟨by rw [e90]; decide, rfl, hO32.tail.tail.sub (List.sublist_append_right _ _)⟩⟩
   ·have e0 : X.spd i a = 0 := hcov.trans (if_pos (ndf c3))
    have ex : X.spent i a = X.setA i { X.acct i with cash := (X.acct i).cash + -a } := if_pos e0
    refine run_skip <| run_seq <| run_region <| rl_v rfl rfl rfl (ov_loadW rfl Try.underlying34 rfl (by kernel_rfl) rfl hO5 2 rfl) ?_
    refine rl_ow rfl (ow_storeW rfl rfl (by kernel_rfl) hO5 0 rfl rfl (by rfl) rfl (by rfl)) ?_
    rintro _ w34 ⟨rfl, hO35, hs36⟩
    refine rl_v rfl rfl rfl (ov_assign rfl rfl) <| rl_nil <| run_ret Try.func75 (resW2 Try.results75 rfl rfl Try.underlying34 rfl (by kernel_rfl) hO35 0 rfl) ?_
    exact ⟨_, by rw [e0], .inl ⟨e0, L, pb, ab2, cb, qb, by rw [ex]; rfl, by rw [ex]; exact hL2, by rw [ex]; exact hO35.tail.tail.tail⟩⟩
end Go.Proofs.Ytfbbagnpdfafjaa
