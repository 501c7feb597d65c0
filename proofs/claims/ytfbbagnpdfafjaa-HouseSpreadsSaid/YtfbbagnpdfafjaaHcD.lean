import Derived.Test.YtfbbagnpdfafjaaHcC
set_option maxRecDepth 100000
namespace Go.Proofs.Ytfbbagnpdfafjaa
open Go.RowKit Go.Proofs
theorem GRes.both {B : Nat} {w0 w : World} {v : Value} {E : Int} {X X' : HM} {K : GK} {R H : List (Option Blk)} (h : (E = 0 ∧ GNew B w0 w v X' R H) ∨ (E ≠ 0 ∧ GSame B w0 w v X K H)) :
  ∃ Y L H2, v = .agg (ghL Y L).toArray ∧ Own B w0 w (H2 ++ H) ∧ (E = 0 → Y = X' ∧ ∃ pb ab cb qb, H2 = pb :: ab :: cb :: (List.range X'.mem).map qb ∧ GRo R X' L pb ab cb qb) ∧ (E ≠ 0 → Y = X ∧ L = K ∧ H2 = []) := by
 rcases h with ⟨h0, K', pb, ab, cb, qb, rfl, h1, h2⟩ | ⟨h0, rfl, h1⟩
 ·exact ⟨X', K', pb :: ab :: cb :: (List.range X'.mem).map qb, rfl, h2, fun _ => ⟨rfl, pb, ab, cb, qb, rfl, h1⟩, fun h => absurd h0 h⟩
 ·exact ⟨X, K, [], rfl, h1, fun h => absurd h h0, fun _ => ⟨rfl, rfl, rfl⟩⟩
theorem gContribute_any (X : HM) (K : GK) (i a : Int) (R : List (Option Blk)) (j B : Nat) (H : List (Option Blk)) (w0 w : World) (hO : Own B w0 w H) (hK : GIn R X K) (hs : R.Sublist H) (hX : HB j X) (hj : j < 100) :
  Calls Try.prog 76 #[.agg (ghL X K).toArray, iv i, iv a] w fun e w' => ∃ v, e = .returned (.tuple #[v, iv (X.spd i a)]) ∧ ((X.spd i a = 0 ∧ GNew B w0 w' v (X.contrib i a) R H) ∨ (X.spd i a ≠ 0 ∧ GSame B w0 w' v X K H)) := by
 have hmem := hX.mem
 refine calls_of_run (F := [(0, _), (1, _), (2, _)]) Try.func76 rfl Try.ntmps76 rfl rfl <| run_seq <| run_region <| rl_ow rfl (ow_box _ rfl rfl rfl rfl rfl hO) ?_
 rintro _ w1 ⟨b3, rfl, hO2, hs3⟩
 refine rl_ow rfl (ow_alloc _ rfl rfl rfl zero_34 rfl hO2) ?_
 rintro _ w4 ⟨b6, rfl, hO5, hs6⟩
 refine rl_v rfl rfl rfl (ov_assign rfl rfl) <| rl_nil <| run_seq <| run_region <| rl_v rfl rfl rfl (ov_loadW rfl Try.underlying34 rfl (by kernel_rfl) rfl hO5 1 rfl) ?_
 refine rl_v rfl rfl rfl (ov_move rfl rfl) <| rl_v rfl rfl rfl (ov_move rfl rfl) ?_
 refine rl_call callable_75 rfl rfl rfl rfl rfl rfl (gWithdraw_any X K i a R j B _ w0 w4 hO5 hK (.cons _ (.cons _ hs)) hX hj) (fun e7 w8 hp9 => ?_)
 obtain ⟨v, rfl, hres⟩ := hp9
 refine ⟨_, rfl, ?_⟩
 obtain ⟨Y, L, H2, rfl, hO1, hy, hn⟩ := GRes.both hres
 refine rl_v rfl rfl rfl (ov_move rfl rfl) <| rl_v rfl rfl rfl (ov_extract rfl rfl (by rfl)) ?_
 refine rl_v rfl rfl rfl (ov_extract rfl rfl (by rfl)) ?_
 refine rl_ow rfl (ow_alloc _ rfl rfl rfl zero_34 rfl hO1) ?_
 rintro _ w10 ⟨b8, rfl, hO11, hs12⟩
 refine rl_ow rfl (ow_storeW rfl rfl (by kernel_rfl) hO11 0 rfl rfl (by rfl) rfl (by rfl)) ?_
 rintro _ w13 ⟨rfl, hO14, hs15⟩
 refine rl_v rfl rfl rfl (ov_assign rfl rfl) <| rl_nil <| run_seq <| run_seq <| run_region <| rl_v rfl rfl rfl (ov_move rfl rfl) <| rl_v rfl rfl rfl (ov_neq rfl rfl rfl) <| rl_nil ?_
 first | refine run_cond_dec rfl (fun c1 => ?_) (fun c1 => ?_) | refine run_cond rfl (fun c1 => ?_) (fun c1 => ?_)
 ·obtain ⟨rfl, rfl, rfl⟩ := hn c1
  refine run_seq <| run_region <| rl_v rfl rfl rfl (ov_loadW rfl Try.underlying34 rfl (by kernel_rfl) rfl hO14 2 rfl) ?_
  refine rl_v rfl rfl rfl (ov_move rfl rfl) <| rl_ow rfl (ow_storeW rfl rfl (by kernel_rfl) hO14 1 rfl rfl (by rfl) rfl (by rfl)) ?_
  rintro _ w16 ⟨rfl, hO17, hs18⟩
  refine rl_v rfl rfl rfl (ov_assign rfl rfl) <| rl_nil <| run_ret Try.func76 (resW2 Try.results76 rfl rfl Try.underlying34 rfl (by kernel_rfl) hO17 1 rfl) ?_
  exact ⟨_, rfl, .inr ⟨c1, rfl, hO17.tail.tail.tail⟩⟩
 ·have c0 : X.spd i a = 0 := by omega
  obtain ⟨h0, hac, _⟩ := spd_zero c0
  obtain ⟨h1, a0, a1⟩ := mny_zero h0
  obtain ⟨hi, ho⟩ := act_zero h1
  obtain ⟨rfl, pb, ab, cb, qb, rfl, hL⟩ := hy c0
  have ex : X.spent i a = X.setA i { X.acct i with cash := (X.acct i).cash - a } := if_pos c0
  have ey : X.contrib i a = X.setA i { X.acct i with cash := (X.acct i).cash - a, fund := (X.acct i).fund + a } := if_pos c0
  have hfu : 0 ≤ (X.acct i).fund ∧ (X.acct i).fund ≤ 10000000000000 * j := hX.fund (i - 1) (by omega) (by omega)
  rw [ex] at hL
  have hac2 := setA_acct X i { X.acct i with cash := (X.acct i).cash - a }
  have hmm : (X.setA i { X.acct i with cash := (X.acct i).cash - a }).mem = X.mem := rfl
  obtain ⟨x0, ea, hcap⟩ := hL.ar.atZero (by rw [hmm]; omega)
  have hidx : 0 ≤ i - 1 ∧ i - 1 < (X.mem : Int) := by omega
  have hO2 : Own B w0 w13 (some (lch b8 34 (ghL (X.spent i a) L)) :: pb :: ab :: cb :: ((List.range (X.spent i a).mem).map qb ++ (some (lch b6 34 _) :: some (lch b3 34 (ghL X K)) :: H))) := hO14
  rw [ex] at hO2
  obtain ⟨x1, e1, ra⟩ := hL.ar.openS hO2 2 rfl
  have e2 := e1 (by rw [hmm]; omega)
  rw [ea] at e2
  cases e2
  refine run_skip <| run_seq <| run_region <| rl_v rfl rfl rfl (ov_fieldS rfl Try.underlying34 rfl (fo := 7) rfl (by kernel_rfl) rfl) ?_
  refine rl_v rfl rfl rfl (ov_load rfl Try.underlying31 rfl rfl (by exact hO2.cellL 0 rfl (off := 7) rfl)) ?_
  refine rl_v rfl rfl rfl (ov_move rfl rfl) <| rl_v rfl rfl rfl (ov_sub rfl rfl rfl (by omega)) ?_
  refine rl_v rfl rfl rfl (ov_index rfl Try.underlying31 (by kernel_rfl) (s := 4) rfl rfl hidx (by exact (id ea))) ?_
  refine rl_v rfl rfl rfl (ov_loadE rfl Try.underlying49 rfl (by kernel_rfl) rfl ⟨by omega, by omega⟩ rfl (ra)) ?_
  refine rl_ow rfl (ow_alloc _ rfl rfl rfl zero_49 rfl hO2) ?_
  rintro _ w19 ⟨b10, rfl, hO20, hs21⟩
  refine rl_ow rfl (ow_storeW rfl rfl (by kernel_rfl) hO20 0 rfl rfl (by rfl) rfl (by rfl)) ?_
  rintro _ w22 ⟨rfl, hO23, hs24⟩
  refine rl_nil <| run_seq <| run_region <| rl_v rfl rfl rfl (ov_fieldS rfl Try.underlying49 rfl (fo := 1) rfl (by kernel_rfl) rfl) ?_
  refine rl_v rfl rfl rfl (ov_load rfl Try.underlying2 rfl rfl (by exact (show _ = some (iv (X.acct i).fund) from hO23.cellL 0 rfl (off := 1) (by show some (iv ((X.setA i { X.acct i with cash := (X.acct i).cash - a }).acct i).fund) = _; rw [hac2])))) ?_
  refine rl_v rfl rfl rfl (ov_move rfl rfl) <| rl_v rfl rfl rfl (ov_add rfl rfl rfl (by omega)) ?_
  refine rl_v rfl rfl rfl (ov_fieldS rfl Try.underlying49 rfl (fo := 1) rfl (by kernel_rfl) rfl) ?_
  refine rl_ow rfl (ow_storeL rfl rfl (by kernel_rfl) hO23 0 rfl rfl rfl rfl rfl) ?_
  rintro _ w25 ⟨rfl, hO26, hs27⟩
  refine rl_nil <| run_seq <| run_region <| rl_v rfl rfl rfl (ov_fieldS rfl Try.underlying34 rfl (fo := 7) rfl (by kernel_rfl) rfl) ?_
  refine rl_v rfl rfl rfl (ov_load rfl Try.underlying31 rfl rfl (by exact hO26.cellL 1 rfl (off := 7) rfl)) ?_
  refine rl_v rfl rfl rfl (ov_move rfl rfl) <| rl_v rfl rfl rfl (ov_sub rfl rfl rfl (by omega)) ?_
  refine rl_v rfl rfl rfl (ov_loadW rfl Try.underlying49 rfl (by kernel_rfl) rfl hO26 0 rfl) ?_
  refine rl_v rfl rfl rfl (ov_index rfl Try.underlying31 (by kernel_rfl) (s := 4) rfl rfl hidx (by exact (id ea))) ?_
  refine rl_ow rfl (ow_storeS rfl rfl (by kernel_rfl) hO26 hL.ar (kk := 3) rfl (fun _ => ea) rfl hidx rfl rfl (by kernel_rfl)) ?_
  rintro _ w28 ⟨c9, rfl, hO29, hR2, hs30⟩
  have hG2 := hL.set (i := i) (a := { X.acct i with cash := (X.acct i).cash - a, fund := (X.acct i).fund + a }) (by rw [hac2]) hR2 (by
   show List.set (gacL ((X.setA i { X.acct i with cash := (X.acct i).cash - a }).acct i) _ _ _) 1 _ = _
   rw [hac2]
   rfl)
  rw [setA_setA] at hG2
  have hO6 : Own B w0 w28 ((_ :: _ :: pb :: c9 :: cb :: (List.range X.mem).map qb) ++ (_ :: _ :: H)) := hO29
  have hO7 := (hO6.perm List.perm_middle)
  refine rl_nil <| run_seq <| run_region <| rl_v rfl rfl rfl (ov_loadW rfl Try.underlying34 rfl (by kernel_rfl) rfl hO7 2 rfl) ?_
  refine rl_ow rfl (ow_storeW rfl rfl (by kernel_rfl) hO7 0 rfl rfl (by rfl) rfl (by rfl)) ?_
  rintro _ w31 ⟨rfl, hO32, hs33⟩
  have hO8 := hO32.tail.tail.tail.sub (List.Sublist.append_left (.cons _ (.refl H)) (pb :: c9 :: cb :: (List.range X.mem).map qb))
  refine rl_v rfl rfl rfl (ov_assign rfl rfl) <| rl_nil <| run_ret Try.func76 (resW2 Try.results76 rfl rfl Try.underlying34 rfl (by kernel_rfl) hO32 0 rfl) ?_
  exact ⟨_, by rw [c0], .inl ⟨c0, L, pb, c9, cb, qb, by rw [ey]; rfl, by rw [ey]; exact hG2, by rw [ey]; exact hO8⟩⟩
def HM.prE (X : HM) (c : Ct) : Int := if X.no4 c then 4 else if c.b = c.s ∨ ¬ (1 ≤ c.q ∧ c.q ≤ 1000000) then 1 else 0
theorem gPair_any (X : HM) (K : GK) (c : Ct) (B : Nat) (H : List (Option Blk)) (w0 w : World) (hO : Own B w0 w H) (hmo : 1 ≤ X.mo) :
  Calls Try.prog 120 #[.agg (ghL X K).toArray, iv c.b, iv c.s, iv c.m, iv c.q] w fun e w' => e = .returned (iv (X.prE c)) ∧ Own B w0 w' H := by
 have e4 : X.no4 c → X.prE c = 4 := fun h => if_pos h
 refine calls_of_run (F := [(0, _), (1, _), (2, _), (3, _), (4, _)]) Try.func120 rfl Try.ntmps120 rfl rfl <| run_seq <| run_region <| rl_ow rfl (ow_box _ rfl rfl rfl rfl rfl hO) ?_
 rintro _ w1 ⟨b5, rfl, hO2, hs3⟩
 refine rl_v rfl rfl rfl (ov_assign rfl rfl) <| rl_nil <| run_seq <| run_seq <| run_region <| rl_v rfl rfl rfl (ov_loadW rfl Try.underlying34 rfl (by kernel_rfl) rfl hO2 0 rfl) ?_
 refine rl_v rfl rfl rfl (ov_move rfl rfl) ?_
 refine rl_call callable_36 rfl rfl rfl rfl rfl rfl (gMember_any X K c.b B _ w0 w1 hO2) (fun e4 w5 hp6 => ?_)
 obtain ⟨rfl, hO1⟩ := hp6
 refine ⟨_, rfl, ?_⟩
 refine rl_v rfl rfl rfl (ov_not rfl rfl) <| rl_v rfl rfl rfl (ov_move rfl rfl) ?_
 first | refine rl_split_dec 15 rfl (fun g1 => ?_) (fun g1 => ?_) | refine rl_split 15 rfl (fun g1 => ?_) (fun g1 => ?_)
 ·refine rl_gskip rfl rfl rfl rfl rfl rfl <| rl_gskip rfl rfl rfl rfl rfl rfl <| rl_gskip rfl rfl rfl rfl rfl rfl <| rl_gskip rfl rfl rfl rfl rfl rfl <| rl_v rfl rfl rfl (ov_pick_t rfl rfl rfl) <| rl_v rfl rfl rfl (ov_move rfl rfl) <| rl_gskip rfl rfl rfl rfl rfl rfl <| rl_gskip rfl rfl rfl rfl rfl rfl <| rl_gskip rfl rfl rfl rfl rfl rfl <| rl_gskip rfl rfl rfl rfl rfl rfl <| rl_v rfl rfl rfl (ov_pick_t rfl rfl rfl) <| rl_nil <| run_cond_t rfl <| run_seq <| run_region <| rl_v rfl rfl rfl (ov_assign rfl rfl) <| rl_nil <| run_ret Try.func120 (res1 Try.results120 rfl) ?_
  exact ⟨by rw [e4 (.inl (ndt g1))], hO1.tail⟩
 ·refine rl_gv rfl rfl rfl rfl rfl (ov_loadW rfl Try.underlying34 rfl (by kernel_rfl) rfl hO1 0 rfl) ?_
  refine rl_gv rfl rfl rfl rfl rfl (ov_move rfl rfl) ?_
  refine rl_gcall callable_36 rfl rfl rfl rfl rfl rfl rfl rfl (gMember_any X K c.s B _ w0 w5 hO1) (fun e8 w9 hp10 => ?_)
  obtain ⟨rfl, hO2⟩ := hp10
  refine ⟨_, rfl, ?_⟩
  refine rl_gv rfl rfl rfl rfl rfl (ov_not rfl rfl) <| rl_v rfl rfl rfl (ov_pick_f rfl rfl rfl) <| rl_v rfl rfl rfl (ov_move rfl rfl) ?_
  first | refine rl_split_dec 21 rfl (fun g2 => ?_) (fun g2 => ?_) | refine rl_split 21 rfl (fun g2 => ?_) (fun g2 => ?_)
  ·refine rl_gskip rfl rfl rfl rfl rfl rfl <| rl_gskip rfl rfl rfl rfl rfl rfl <| rl_gskip rfl rfl rfl rfl rfl rfl <| rl_gskip rfl rfl rfl rfl rfl rfl <| rl_v rfl rfl rfl (ov_pick_t rfl rfl rfl) <| rl_nil <| run_cond_t rfl <| run_seq <| run_region <| rl_v rfl rfl rfl (ov_assign rfl rfl) <| rl_nil <| run_ret Try.func120 (res1 Try.results120 rfl) ?_
   exact ⟨by rw [e4 (.inr (.inl (ndt g2)))], hO2.tail⟩
  ·refine rl_gv rfl rfl rfl rfl rfl (ov_loadW rfl Try.underlying34 rfl (by kernel_rfl) rfl hO2 0 rfl) ?_
   refine rl_gv rfl rfl rfl rfl rfl (ov_move rfl rfl) ?_
   refine rl_gcall callable_37 rfl rfl rfl rfl rfl rfl rfl rfl (gMonth_any X K c.m B _ w0 w9 hO2 hmo) (fun e12 w13 hp14 => ?_)
   obtain ⟨rfl, hO3⟩ := hp14
   refine ⟨_, rfl, ?_⟩
   refine rl_gv rfl rfl rfl rfl rfl (ov_not rfl rfl) <| rl_v rfl rfl rfl (ov_pick_f rfl rfl rfl) <| rl_nil ?_
   first | refine run_cond_dec rfl (fun g3 => ?_) (fun g3 => ?_) | refine run_cond rfl (fun g3 => ?_) (fun g3 => ?_)
   ·have hnm : ¬ X.hasM c.m := ndt g3
    have h4 : X.no4 c := .inr (.inr (Classical.byContradiction fun h => hnm ⟨Classical.byContradiction fun h1 => h (.inl (by omega)), Classical.byContradiction fun h1 => h (.inr (by omega))⟩))
    refine run_seq <| run_region <| rl_v rfl rfl rfl (ov_assign rfl rfl) <| rl_nil <| run_ret Try.func120 (res1 Try.results120 rfl) ?_
    exact ⟨by rw [e4 h4], hO3.tail⟩
   ·have hnm : X.hasM c.m := ndf g3
    have hnm2 : 0 ≤ c.m ∧ c.m < X.mo := hnm
    have n4 : ¬ X.no4 c := fun h => h.elim (fun h => h (ndf g1)) fun h => h.elim (fun h => h (ndf g2)) fun h => by omega
    have e1 : (c.b = c.s ∨ ¬ (1 ≤ c.q ∧ c.q ≤ 1000000)) → X.prE c = 1 := fun h => (if_neg n4).trans (if_pos h)
    refine run_skip <| run_seq <| run_seq <| run_region <| rl_v rfl rfl rfl (ov_move rfl rfl) <| rl_v rfl rfl rfl (ov_move rfl rfl) <| rl_v rfl rfl rfl (ov_eql rfl rfl rfl) <| rl_v rfl rfl rfl (ov_move rfl rfl) ?_
    first | refine rl_split_dec 30 rfl (fun k1 => ?_) (fun k1 => ?_) | refine rl_split 30 rfl (fun k1 => ?_) (fun k1 => ?_)
    ·refine rl_gskip rfl rfl rfl rfl rfl rfl <| rl_gskip rfl rfl rfl rfl rfl rfl <| rl_v rfl rfl rfl (ov_pick_t rfl rfl rfl) <| rl_v rfl rfl rfl (ov_move rfl rfl) <| rl_gskip rfl rfl rfl rfl rfl rfl <| rl_gskip rfl rfl rfl rfl rfl rfl <| rl_v rfl rfl rfl (ov_pick_t rfl rfl rfl) <| rl_nil <| run_cond_t rfl <| run_seq <| run_region <| rl_v rfl rfl rfl (ov_assign rfl rfl) <| rl_nil <| run_ret Try.func120 (res1 Try.results120 rfl) ?_
     exact ⟨by rw [e1 (.inl k1)], hO3.tail⟩
    ·refine rl_gv rfl rfl rfl rfl rfl (ov_move rfl rfl) <| rl_gv rfl rfl rfl rfl rfl (ov_lss rfl rfl rfl) <| rl_v rfl rfl rfl (ov_pick_f rfl rfl rfl) <| rl_v rfl rfl rfl (ov_move rfl rfl) ?_
     first | refine rl_split_dec 34 rfl (fun k2 => ?_) (fun k2 => ?_) | refine rl_split 34 rfl (fun k2 => ?_) (fun k2 => ?_)
     ·refine rl_gskip rfl rfl rfl rfl rfl rfl <| rl_gskip rfl rfl rfl rfl rfl rfl <| rl_v rfl rfl rfl (ov_pick_t rfl rfl rfl) <| rl_nil <| run_cond_t rfl <| run_seq <| run_region <| rl_v rfl rfl rfl (ov_assign rfl rfl) <| rl_nil <| run_ret Try.func120 (res1 Try.results120 rfl) ?_
      exact ⟨by rw [e1 (.inr fun h => by omega)], hO3.tail⟩
     ·refine rl_gv rfl rfl rfl rfl rfl (ov_move rfl rfl) <| rl_gv rfl rfl rfl rfl rfl (ov_gtr rfl rfl rfl) <| rl_v rfl rfl rfl (ov_pick_f rfl rfl rfl) <| rl_nil ?_
      first | refine run_cond_dec rfl (fun k3 => ?_) (fun k3 => ?_) | refine run_cond rfl (fun k3 => ?_) (fun k3 => ?_)
      ·refine run_seq <| run_region <| rl_v rfl rfl rfl (ov_assign rfl rfl) <| rl_nil <| run_ret Try.func120 (res1 Try.results120 rfl) ?_
       exact ⟨by rw [e1 (.inr fun h => by omega)], hO3.tail⟩
      ·have e0 : X.prE c = 0 := (if_neg n4).trans (if_neg fun h => h.elim k1 fun h => h (by omega))
       refine run_skip <| run_seq <| run_region <| rl_v rfl rfl rfl (ov_assign rfl rfl) <| rl_nil <| run_ret Try.func120 (res1 Try.results120 rfl) ?_
       exact ⟨by rw [e0], hO3.tail⟩
theorem gAllowed_any (X Y : HM) (K L : GK) (i : Int) (R1 R2 : List (Option Blk)) (B : Nat) (H : List (Option Blk)) (w0 w : World) (hO : Own B w0 w H) (hK : GIn R1 X K) (hs1 : R1.Sublist H) (hX : GG X) (hL : GIn R2 Y L) (hs2 : R2.Sublist H) (hY : GG Y) (hi : 1 ≤ i ∧ i ≤ X.mem) (hi2 : 1 ≤ i ∧ i ≤ Y.mem) :
  Calls Try.prog 122 #[.agg (ghL X K).toArray, .agg (ghL Y L).toArray, iv i] w fun e w' => e = .returned (.bool (decide (Y.need (Y.acct i) ≤ (Y.acct i).cash ∨ Y.need (Y.acct i) ≤ X.need (X.acct i) ∧ (X.acct i).cash ≤ (Y.acct i).cash))) ∧ Own B w0 w' H := by
 have hmem := hX.g.mem
 have hmem2 := hY.g.mem
 obtain ⟨xb, xo, ex, rx⟩ := hK.av.at (by decide) (hO.sub hs1) (by omega)
 obtain ⟨yb, yo, ey, ry⟩ := hL.av.at (by decide) (hO.sub hs2) (by omega)
 refine calls_of_run (F := [(0, _), (1, _), (2, _)]) Try.func122 rfl Try.ntmps122 rfl rfl <| run_seq <| run_region <| rl_ow rfl (ow_box _ rfl rfl rfl rfl rfl hO) ?_
 rintro _ w1 ⟨b3, rfl, hO2, hs3⟩
 refine rl_ow rfl (ow_box _ rfl rfl rfl rfl rfl hO2) ?_
 rintro _ w4 ⟨b4, rfl, hO5, hs6⟩
 refine rl_v rfl rfl rfl (ov_assign rfl rfl) <| rl_nil <| run_seq <| run_class (Cl B w0 (some (lch b4 34 (ghL Y L)) :: some (lch b3 34 (ghL X K)) :: H)) (⟨hO5.drew⟩) mixed (by kernel_rfl) ?_
 refine rk_v rfl rfl rfl (fun wq hQ => ov_loadW rfl Try.underlying34 rfl (by kernel_rfl) rfl (hQ.own) 0 rfl) ?_
 refine rk_v rfl rfl rfl (fun wq hQ => ov_move rfl rfl) ?_
 refine rk_call callable_119 rfl rfl rfl rfl rfl rfl (fun wq hQ => (gCovered_any Y L i R2 B _ w0 wq (hQ.own) hL (.cons _ (.cons _ hs2)) hY hi2).mono fun _ _ h => ⟨h.1, ⟨h.2⟩⟩) ?_
 refine rk_v rfl rfl rfl (fun wq hQ => ov_move rfl rfl) ?_
 first | refine rk_split_dec 10 rfl (fun g1 => ?_) (fun g1 => ?_) | refine rk_split 10 rfl (fun g1 => ?_) (fun g1 => ?_)
 ·refine rk_gskip rfl rfl rfl rfl rfl rfl <| rk_gskip rfl rfl rfl rfl rfl rfl <| rk_gskip rfl rfl rfl rfl rfl rfl <| rk_gskip rfl rfl rfl rfl rfl rfl <| rk_gskip rfl rfl rfl rfl rfl rfl <| rk_gskip rfl rfl rfl rfl rfl rfl <| rk_gskip rfl rfl rfl rfl rfl rfl <| rk_gskip rfl rfl rfl rfl rfl rfl <| rk_gundef rfl rfl rfl rfl rfl <| rk_gundef rfl rfl rfl rfl rfl <| rk_gundef rfl rfl rfl rfl rfl <| rk_gundef rfl rfl rfl rfl rfl <| rk_gundef rfl rfl rfl rfl rfl <| rk_gundef rfl rfl rfl rfl rfl <| rk_gundef rfl rfl rfl rfl rfl <| rk_gundef rfl rfl rfl rfl rfl <| rk_gundef rfl rfl rfl rfl rfl <| rk_gundef rfl rfl rfl rfl rfl <| rk_gundef rfl rfl rfl rfl rfl <| rk_gundef rfl rfl rfl rfl rfl <| rk_gundef rfl rfl rfl rfl rfl <| rk_gundef rfl rfl rfl rfl rfl <| rk_gundef rfl rfl rfl rfl rfl <| rk_gskip rfl rfl rfl rfl rfl rfl <| rk_v rfl rfl rfl (fun wq hQ => ov_pick_t rfl rfl rfl) ?_
  refine rk_v rfl rfl rfl (fun wq hQ => ov_assign rfl rfl) ?_
  refine rk_nil (fun w11 hQ => ?_)
  refine run_ret Try.func122 (res1 Try.results122 rfl) ?_
  exact ⟨by rw [decide_eq_true (Or.inl g1)], (hQ.own).tail.tail⟩
 ·refine rk_gv rfl rfl rfl rfl rfl (fun wq hQ => ov_loadW rfl Try.underlying34 rfl (by kernel_rfl) rfl (hQ.own) 0 rfl) ?_
  refine rk_gv rfl rfl rfl rfl rfl (fun wq hQ => ov_move rfl rfl) ?_
  refine rk_gcall callable_85 rfl rfl rfl rfl rfl rfl rfl rfl (fun wq hQ => (gMargin_any Y L i R2 B _ w0 wq (hQ.own) hL (.cons _ (.cons _ hs2)) hY.w hi2).mono fun _ _ h => ⟨h.1, ⟨h.2⟩⟩) ?_
  refine rk_gv rfl rfl rfl rfl rfl (fun wq hQ => ov_loadW rfl Try.underlying34 rfl (by kernel_rfl) rfl (hQ.own) 1 rfl) ?_
  refine rk_gv rfl rfl rfl rfl rfl (fun wq hQ => ov_move rfl rfl) ?_
  refine rk_gcall callable_85 rfl rfl rfl rfl rfl rfl rfl rfl (fun wq hQ => (gMargin_any X K i R1 B _ w0 wq (hQ.own) hK (.cons _ (.cons _ hs1)) hX.w hi).mono fun _ _ h => ⟨h.1, ⟨h.2⟩⟩) ?_
  refine rk_gv rfl rfl rfl rfl rfl (fun wq hQ => ov_leq rfl rfl rfl) ?_
  refine rk_gv rfl rfl rfl rfl rfl (fun wq hQ => ov_move rfl rfl) ?_
  first | refine rk_split_dec 18 rfl (fun g2 => ?_) (fun g2 => ?_) | refine rk_split 18 rfl (fun g2 => ?_) (fun g2 => ?_)
  ·refine rk_gv rfl rfl rfl rfl rfl (fun wq hQ => ov_fieldS rfl Try.underlying34 rfl (fo := 7) rfl (by kernel_rfl) rfl) ?_
   refine rk_gv rfl rfl rfl rfl rfl (fun wq hQ => ov_load rfl Try.underlying31 rfl rfl (by exact (hQ.own).cellL 0 rfl (off := 7) rfl)) ?_
   refine rk_gv rfl rfl rfl rfl rfl (fun wq hQ => ov_move rfl rfl) ?_
   refine rk_gv rfl rfl rfl rfl rfl (fun wq hQ => ov_sub rfl rfl rfl (by omega)) ?_
   refine rk_gv rfl rfl rfl rfl rfl (fun wq hQ => ov_index rfl Try.underlying31 (by kernel_rfl) (s := 4) rfl rfl ⟨by omega, by omega⟩ (by exact (id ey))) ?_
   refine rk_gv rfl rfl rfl rfl rfl (fun wq hQ => ov_fieldS rfl Try.underlying49 rfl (fo := 0) rfl (by kernel_rfl) rfl) ?_
   refine rk_gv rfl rfl rfl rfl rfl (fun wq hQ => ov_load rfl Try.underlying2 rfl rfl (by exact (show _ = some (iv (Y.acct i).cash) from ry ((hQ.own).sub (.cons _ (.cons _ hs2))) (i - 1) (by omega) (by omega) 0 (by decide)))) ?_
   refine rk_gv rfl rfl rfl rfl rfl (fun wq hQ => ov_fieldS rfl Try.underlying34 rfl (fo := 7) rfl (by kernel_rfl) rfl) ?_
   refine rk_gv rfl rfl rfl rfl rfl (fun wq hQ => ov_load rfl Try.underlying31 rfl rfl (by exact (hQ.own).cellL 1 rfl (off := 7) rfl)) ?_
   refine rk_gv rfl rfl rfl rfl rfl (fun wq hQ => ov_move rfl rfl) ?_
   refine rk_gv rfl rfl rfl rfl rfl (fun wq hQ => ov_sub rfl rfl rfl (by omega)) ?_
   refine rk_gv rfl rfl rfl rfl rfl (fun wq hQ => ov_index rfl Try.underlying31 (by kernel_rfl) (s := 4) rfl rfl ⟨by omega, by omega⟩ (by exact (id ex))) ?_
   refine rk_gv rfl rfl rfl rfl rfl (fun wq hQ => ov_fieldS rfl Try.underlying49 rfl (fo := 0) rfl (by kernel_rfl) rfl) ?_
   refine rk_gv rfl rfl rfl rfl rfl (fun wq hQ => ov_load rfl Try.underlying2 rfl rfl (by exact (show _ = some (iv (X.acct i).cash) from rx ((hQ.own).sub (.cons _ (.cons _ hs1))) (i - 1) (by omega) (by omega) 0 (by decide)))) ?_
   refine rk_gv rfl rfl rfl rfl rfl (fun wq hQ => ov_geq rfl rfl rfl) ?_
   refine rk_gv rfl rfl rfl rfl rfl (fun wq hQ => ov_pick_t rfl rfl rfl) ?_
   refine rk_v rfl rfl rfl (fun wq hQ => ov_pick_f rfl rfl rfl) ?_
   refine rk_v rfl rfl rfl (fun wq hQ => ov_assign rfl rfl) ?_
   refine rk_nil (fun w19 hQ => ?_)
   refine run_ret Try.func122 (res1 Try.results122 rfl) ?_
   exact ⟨by simp [g1, g2], (hQ.own).tail.tail⟩
  ·refine rk_gskip rfl rfl rfl rfl rfl rfl <| rk_gskip rfl rfl rfl rfl rfl rfl <| rk_gskip rfl rfl rfl rfl rfl rfl <| rk_gskip rfl rfl rfl rfl rfl rfl <| rk_gskip rfl rfl rfl rfl rfl rfl <| rk_gskip rfl rfl rfl rfl rfl rfl <| rk_gskip rfl rfl rfl rfl rfl rfl <| rk_gskip rfl rfl rfl rfl rfl rfl <| rk_gskip rfl rfl rfl rfl rfl rfl <| rk_gskip rfl rfl rfl rfl rfl rfl <| rk_gskip rfl rfl rfl rfl rfl rfl <| rk_gskip rfl rfl rfl rfl rfl rfl <| rk_gskip rfl rfl rfl rfl rfl rfl <| rk_gskip rfl rfl rfl rfl rfl rfl <| rk_gskip rfl rfl rfl rfl rfl rfl <| rk_gv rfl rfl rfl rfl rfl (fun wq hQ => ov_pick_f rfl rfl rfl) ?_
   refine rk_v rfl rfl rfl (fun wq hQ => ov_pick_f rfl rfl rfl) ?_
   refine rk_v rfl rfl rfl (fun wq hQ => ov_assign rfl rfl) ?_
   refine rk_nil (fun w20 hQ => ?_)
   refine run_ret Try.func122 (res1 Try.results122 rfl) ?_
   exact ⟨by simp [g1, g2], (hQ.own).tail.tail⟩
end Go.Proofs.Ytfbbagnpdfafjaa
