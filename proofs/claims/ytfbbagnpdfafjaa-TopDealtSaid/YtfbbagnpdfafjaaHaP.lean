import Derived.Test.YtfbbagnpdfafjaaHaO
set_option maxRecDepth 100000
namespace Go.Proofs.Ytfbbagnpdfafjaa
open Go.RowKit Go.Proofs
abbrev setFund (a : HA) (x : Int) : HA := { a with fund := x }
abbrev setCash (a : HA) (x : Int) : HA := { a with cash := x }
theorem funds_any (hb B : Nat) (X : HM) (K : HK) (i x : Int) (N H : List (Option Blk)) (w0 w : World) (hO : Own B w0 w H) (k kb : Nat)
  (hk : ∀ c, (H.set kb c)[k]? = some (houB hb (X.r K))) (hkb : ∀ c, (H.set kb c)[kb]? = some c) (hs : H.set kb K.blk = H) (hK : HOk X K N) (hm20 : X.mem < 20) (hi : 1 ≤ i ∧ i ≤ X.mem) (hg : ∀ j : Int, 0 ≤ j → j < X.mem → (X.ac j).fund.natAbs ≤ 20000000000000000) (hx : 0 ≤ x ∧ x ≤ 9000000000000000000) :
  Calls Try.prog 70 #[ptr hb, iv i, iv x] w fun e w' => e = .returned (iv (X.spT HA.fund i x)) ∧ ∃ c, AccRow K.ab X.mem K.acap (X.spA HA.fund setFund i x) c ∧ Own B w0 w' (H.set kb c) := by
 refine calls_of_run (F := [(0, _), (1, _), (2, _)]) Try.func70 rfl Try.ntmps70 rfl rfl ?_
 have hO0 := Own.init w
 refine run_seq <| run_region <| rl_v rfl rfl rfl (ov_assign rfl rfl) <| rl_nil <| run_seq <| run_region <| rl_v rfl rfl rfl (ov_move rfl rfl) <| rl_v rfl rfl rfl (ov_move rfl rfl) <| rl_v rfl rfl rfl (ov_move rfl rfl) ?_
 refine rl_call callable_113 rfl rfl rfl rfl rfl rfl (spread_any 114 1 HA.fund setFund fldFund callable_114 hb B X K i x N H w0 w hO k kb hk hkb hs hK hm20 hi hg hx) (fun e1 w2 hp3 => ?_)
 obtain ⟨rfl, c, hr, hO2⟩ := hp3
 refine ⟨_, rfl, ?_⟩
 refine rl_v rfl rfl rfl (ov_assign rfl rfl) <| rl_nil <| run_ret Try.func70 (res1 Try.results70 rfl) ?_
 exact ⟨rfl, c, hr, hO2⟩
theorem gains_any (hb B : Nat) (X : HM) (K : HK) (i x : Int) (N H : List (Option Blk)) (w0 w : World) (hO : Own B w0 w H) (k kb : Nat)
  (hk : ∀ c, (H.set kb c)[k]? = some (houB hb (X.r K))) (hkb : ∀ c, (H.set kb c)[kb]? = some c) (hs : H.set kb K.blk = H) (hK : HOk X K N) (hm20 : X.mem < 20) (hi : 1 ≤ i ∧ i ≤ X.mem) (hg : ∀ j : Int, 0 ≤ j → j < X.mem → (X.ac j).cash.natAbs ≤ 20000000000000000) (hx : 0 ≤ x ∧ x ≤ 9000000000000000000) :
  Calls Try.prog 71 #[ptr hb, iv i, iv x] w fun e w' => e = .returned (iv (X.spT HA.cash i x)) ∧ ∃ c, AccRow K.ab X.mem K.acap (X.spA HA.cash setCash i x) c ∧ Own B w0 w' (H.set kb c) := by
 refine calls_of_run (F := [(0, _), (1, _), (2, _)]) Try.func71 rfl Try.ntmps71 rfl rfl ?_
 have hO0 := Own.init w
 refine run_seq <| run_region <| rl_v rfl rfl rfl (ov_assign rfl rfl) <| rl_nil <| run_seq <| run_region <| rl_v rfl rfl rfl (ov_move rfl rfl) <| rl_v rfl rfl rfl (ov_move rfl rfl) <| rl_v rfl rfl rfl (ov_move rfl rfl) ?_
 refine rl_call callable_113 rfl rfl rfl rfl rfl rfl (spread_any 115 0 HA.cash setCash fldCash callable_115 hb B X K i x N H w0 w hO k kb hk hkb hs hK hm20 hi hg hx) (fun e1 w2 hp3 => ?_)
 obtain ⟨rfl, c, hr, hO2⟩ := hp3
 refine ⟨_, rfl, ?_⟩
 refine rl_v rfl rfl rfl (ov_assign rfl rfl) <| rl_nil <| run_ret Try.func71 (res1 Try.results71 rfl) ?_
 exact ⟨rfl, c, hr, hO2⟩
noncomputable section
def HM.d0 (X : HM) (i : Int) : HM := { X with ac := X.tkG i 12 }
def HM.l0 (X : HM) (i : Int) : Int := -(X.acct i).cash
def HM.d1 (X : HM) (i : Int) : HM := (X.d0 i).setA i (setCash ((X.d0 i).acct i) 0)
def HM.t0 (X : HM) (i : Int) : Int := min (X.l0 i) ((X.d1 i).acct i).fund
def HM.d2 (X : HM) (i : Int) : HM := (X.d1 i).setA i (setFund ((X.d1 i).acct i) (((X.d1 i).acct i).fund - X.t0 i))
def HM.l1 (X : HM) (i : Int) : Int := X.l0 i - X.t0 i
def HM.t1 (X : HM) (i : Int) : Int := min (X.l1 i) (X.d2 i).cap
def HM.d3 (X : HM) (i : Int) : HM := { X.d2 i with cap := (X.d2 i).cap - X.t1 i }
def HM.l2 (X : HM) (i : Int) : Int := X.l1 i - X.t1 i
def HM.t2 (X : HM) (i : Int) : Int := (X.d3 i).spT HA.fund i (X.l2 i)
def HM.d4 (X : HM) (i : Int) : HM := { X.d3 i with ac := (X.d3 i).spA HA.fund setFund i (X.l2 i) }
def HM.l3 (X : HM) (i : Int) : Int := X.l2 i - X.t2 i
def HM.t3 (X : HM) (i : Int) : Int := (X.d4 i).spT HA.cash i (X.l3 i)
def HM.d5 (X : HM) (i : Int) : HM := { X.d4 i with ac := (X.d4 i).spA HA.cash setCash i (X.l3 i) }
def HM.l4 (X : HM) (i : Int) : Int := X.l3 i - X.t3 i
def HM.d6 (X : HM) (i : Int) : HM := { X.d5 i with hole := (X.d5 i).hole + X.l4 i }
def HM.d7 (X : HM) (i : Int) : HM := (X.d6 i).setA i { (X.d5 i).ac (i - 1) with out := true }
def HM.dflt (X : HM) (i : Int) : HM := if X.act i = 0 then if 0 < X.l0 i then X.d7 i else (X.d0 i).setA i { (X.d0 i).acct i with out := true } else X
def HM.loss (X : HM) (i : Int) : List Int := if X.act i = 0 ∧ 0 < X.l0 i then [X.t0 i, X.t1 i, X.t2 i, X.t3 i, X.l4 i] else [0, 0, 0, 0, 0]
end
def lossV (l : List Int) : List Value := l.map iv
theorem Own.sink {B : Nat} {w0 w : World} {x a b : Option Blk} {N R : List (Option Blk)} (h : Own B w0 w (x :: a :: b :: (N ++ R))) : Own B w0 w (a :: b :: (N ++ (x :: R))) := h.perm (perm3.trans (.cons _ (.cons _ List.perm_middle.symm)))
theorem Own.rise {B : Nat} {w0 w : World} {x a b : Option Blk} {N R : List (Option Blk)} (h : Own B w0 w (a :: b :: (N ++ (x :: R)))) : Own B w0 w (x :: a :: b :: (N ++ R)) := h.perm (perm3.trans (.cons _ (.cons _ List.perm_middle.symm))).symm
theorem r_ac (X : HM) (f : Int → HA) (K : HK) (c c2 : Option Blk) : ({ X with ac := f } : HM).r { K with blk := c } = X.r { K with blk := c2 } := rfl
theorem r_hole (X : HM) (K : HK) (h : Int) : (X.r K).l.set (0 + 16) (iv h) = (({ X with hole := h } : HM).r K).l := rfl
theorem r_set (X : HM) (i : Int) (a : HA) (K : HK) (c c2 : Option Blk) : (X.setA i a).r { K with blk := c } = X.r { K with blk := c2 } := rfl
theorem accL_out (a : HA) : (accL a).set 14 (.bool true) = accL { a with out := true } := rfl
theorem hok_ac (X : HM) {K : HK} {N : List (Option Blk)} (h : HOk X K N) (f : Int → HA) {c : Option Blk} (hr : AccRow K.ab X.mem K.acap f c) : HOk { X with ac := f } { K with blk := c } N := ⟨hr, h.mv, h.ct, h.cz, h.cc⟩
theorem hok_set (X : HM) {K : HK} {N : List (Option Blk)} (h : HOk X K N) (hl i : Int) (a : HA) {c : Option Blk} (hr : AccRow K.ab X.mem K.acap (upd X.ac (i - 1) a) c) : HOk (({ X with hole := hl } : HM).setA i a) { K with blk := c } N := ⟨hr, h.mv, h.ct, h.cz, h.cc⟩
set_option maxHeartbeats 1000000 in
theorem default_any (hb B : Nat) (X : HM) (i : Int) (Pl R : List (Option Blk)) (w0 w : World) (h : HAt B w0 w hb X Pl R) (hG : HG X) (hm20 : X.mem < 20) (hZ : HZ X) :
  Calls Try.prog 29 #[ptr hb, iv i] w fun e w' => e = .returned (.tuple #[.agg (lossV (X.loss i)).toArray, iv (X.act i)]) ∧ HAt B w0 w' hb (X.dflt i) Pl R := by
 obtain ⟨K, N, hO, hK, hPl⟩ := h
 refine calls_of_run (F := [(0, _), (1, _)]) Try.func29 rfl Try.ntmps29 rfl rfl <| run_seq <| run_region <| rl_ow rfl (ow_alloc _ rfl rfl rfl zero_60 rfl hO) ?_
 rintro _ w1 ⟨b4, rfl, hO2, hs3⟩
 refine rl_v rfl rfl rfl (ov_assign rfl rfl) <| rl_nil <| run_seq <| run_region <| rl_v rfl rfl rfl (ov_move rfl rfl) <| rl_v rfl rfl rfl (ov_move rfl rfl) ?_
 refine rl_call callable_61 rfl rfl rfl rfl rfl rfl (active_any hb B X K i N _ w0 w1 hO2 1 2 rfl rfl hK hG) (fun e4 w5 hp6 => ?_)
 obtain ⟨pv, rfl, hpv, hw⟩ := hp6
 refine ⟨_, rfl, ?_⟩
 subst hw
 refine rl_v rfl rfl rfl (ov_move rfl rfl) <| rl_v rfl rfl rfl (ov_extract rfl rfl (by rfl)) ?_
 refine rl_v rfl rfl rfl (ov_extract rfl rfl (by rfl)) ?_
 refine rl_v rfl rfl rfl (ov_assign rfl rfl) <| rl_v rfl rfl rfl (ov_assign rfl rfl) <| rl_nil <| run_seq <| run_seq <| run_region <| rl_v rfl rfl rfl (ov_move rfl rfl) <| rl_v rfl rfl rfl (ov_neq rfl rfl rfl) <| rl_nil ?_
 first | refine run_cond_dec rfl (fun ha => ?_) (fun ha => ?_) | refine run_cond rfl (fun ha => ?_) (fun ha => ?_)
 ·have el : X.loss i = [0, 0, 0, 0, 0] := if_neg fun h => ha h.1
  have ex : X.dflt i = X := if_neg ha
  refine run_seq <| run_region <| rl_v rfl rfl rfl (ov_buildL rfl lay_60 rfl (us := [_, _, _, _, _]) rfl) <| rl_v rfl rfl rfl (ov_move rfl rfl) <| rl_ow rfl (ow_storeW rfl rfl (by kernel_rfl) hO2 0 rfl rfl (by rfl) rfl (by rfl)) ?_
  rintro _ w7 ⟨rfl, hO8, hs9⟩
  refine rl_v rfl rfl rfl (ov_assign rfl rfl) <| rl_nil <| run_ret Try.func29 (resW2 Try.results29 rfl rfl Try.underlying60 rfl (by kernel_rfl) hO8 0 rfl) ?_
  exact ⟨by rw [el]; rfl, by rw [ex]; exact ⟨K, N, hO8.tail, hK, hPl⟩⟩
 ·have ha0 : X.act i = 0 := by omega
  obtain ⟨rfl, hi, ho⟩ := hpv ha0
  have hi2 : 1 ≤ i ∧ i ≤ X.mem := hi
  have hca : (X.acct i).cash.natAbs ≤ 10000000000000000 := hG.cash (i - 1) (by omega) (by omega)
  have hfu : 0 ≤ (X.acct i).fund ∧ (X.acct i).fund ≤ 10000000000000000 := hG.fund (i - 1) (by omega) (by omega)
  refine run_skip <| run_seq <| run_region <| rl_v rfl rfl rfl (ov_move rfl rfl) <| rl_v rfl rfl rfl (ov_move rfl rfl) ?_
  refine rl_call callable_67 rfl rfl rfl rfl rfl rfl (takeOver_any hb B X K i N _ w0 w5 hO2.sink hK hG hm20 hZ hi2) (fun e10 w11 hp12 => ?_)
  obtain ⟨rfl, c0, hr0, hO2⟩ := hp12
  refine ⟨_, rfl, ?_⟩
  have hO3 := hO2.rise
  refine rl_nil <| run_seq <| run_region <| rl_ow rfl (ow_allocA 4 rfl rfl rfl zero_138 rfl hO3) ?_
  rintro _ w13 ⟨b8, rfl, hO14, hs15⟩
  refine rl_nil <| run_seq <| run_seq <| run_region <| rl_v rfl rfl rfl (ov_move rfl rfl) <| rl_v rfl rfl rfl (ov_nil rfl rfl) <| rl_v rfl rfl rfl (ov_fieldS rfl Try.underlying127 rfl (fo := 0) rfl (by kernel_rfl) rfl) ?_
  refine rl_v rfl rfl rfl (ov_load rfl Try.underlying2 rfl rfl (by exact (show _ = some (iv (X.acct i).cash) from rowRd hr0 hO14 3 rfl (i := i - 1) (by omega) (by omega) 0 (by decide)))) ?_
  refine rl_v rfl rfl rfl (ov_neg rfl rfl (by omega)) ?_
  refine rl_v rfl rfl rfl (ov_assign rfl rfl) <| rl_nil <| run_seq <| run_region <| rl_v rfl rfl rfl (ov_move rfl rfl) <| rl_v rfl rfl rfl (ov_gtr rfl rfl rfl) <| rl_nil ?_
  first | refine run_cond_dec rfl (fun hl => ?_) (fun hl => ?_) | refine run_cond rfl (fun hl => ?_) (fun hl => ?_)
  ·have hl' : 0 < X.l0 i := hl
   have hl0 : X.l0 i ≤ 10000000000000000 := by unfold HM.l0; omega
   have f1 : ((X.d1 i).acct i).fund = (X.acct i).fund := by unfold HM.d1; rw [setA_acct]; rfl
   have ht0 : 0 ≤ X.t0 i ∧ X.t0 i ≤ X.l0 i ∧ X.t0 i ≤ (X.acct i).fund := by unfold HM.t0; rw [f1]; omega
   have hl1 : X.l1 i = X.l0 i - X.t0 i := rfl
   have hcap : 0 ≤ X.cap ∧ X.cap ≤ 1000000000000 := hG.cap
   have hcap2 : (X.d2 i).cap = X.cap := rfl
   have ht1 : 0 ≤ X.t1 i ∧ X.t1 i ≤ X.l1 i := by unfold HM.t1; rw [hcap2]; omega
   have hl2 : X.l2 i = X.l1 i - X.t1 i := rfl
   have ht2 : 0 ≤ X.t2 i ∧ X.t2 i ≤ X.l2 i := by
    have h1 : 0 ≤ sm ((X.d3 i).spW HA.fund i) (X.d3 i).mem := sm_nonneg fun j _ _ => spW_nonneg _ _ _ _
    unfold HM.t2 HM.spT
    omega
   have hl3 : X.l3 i = X.l2 i - X.t2 i := rfl
   have ht3 : 0 ≤ X.t3 i ∧ X.t3 i ≤ X.l3 i := by
    have h1 : 0 ≤ sm ((X.d4 i).spW HA.cash i) (X.d4 i).mem := sm_nonneg fun j _ _ => spW_nonneg _ _ _ _
    unfold HM.t3 HM.spT
    omega
   have hl4 : X.l4 i = X.l3 i - X.t3 i := rfl
   have hfund3 : ∀ j : Int, 0 ≤ j → j < X.mem → ((X.d3 i).ac j).fund.natAbs ≤ 20000000000000000 := fun j j0 j1 => by
    have h1 := hG.fund j j0 j1
    show (upd (upd (X.tkG i 12) (i - 1) (setCash ((X.d0 i).acct i) 0)) (i - 1) (setFund ((X.d1 i).acct i) (((X.d1 i).acct i).fund - X.t0 i)) j).fund.natAbs ≤ _
    unfold upd
    split
    ·show (((X.d1 i).acct i).fund - X.t0 i).natAbs ≤ _
     rw [f1]
     omega
    ·rename_i e
     show (X.ac j).fund.natAbs ≤ _
     omega
   have hcash4 : ∀ j : Int, 0 ≤ j → j < X.mem → ((X.d4 i).ac j).cash.natAbs ≤ 20000000000000000 := fun j j0 j1 => by
    have h1 := hG.cash j j0 j1
    have h2 : ((X.d4 i).ac j).cash = ((X.d3 i).ac j).cash := by
     show ((X.d3 i).spA HA.fund setFund i (X.l2 i) j).cash = _
     unfold HM.spA
     split <;> rfl
    rw [h2]
    show (upd (upd (X.tkG i 12) (i - 1) (setCash ((X.d0 i).acct i) 0)) (i - 1) (setFund ((X.d1 i).acct i) (((X.d1 i).acct i).fund - X.t0 i)) j).cash.natAbs ≤ _
    unfold upd
    split
    ·show (((X.d1 i).acct i).cash).natAbs ≤ _
     rw [show (X.d1 i).acct i = setCash ((X.d0 i).acct i) 0 from setA_acct (X.d0 i) i _]
     show (0 : Int).natAbs ≤ _
     decide
    ·rename_i e
     show (X.ac j).cash.natAbs ≤ _
     omega
   refine run_seq <| run_region <| rl_v rfl rfl rfl (ov_move rfl rfl) <| rl_v rfl rfl rfl (ov_nil rfl rfl) <| rl_v rfl rfl rfl (ov_fieldS rfl Try.underlying127 rfl (fo := 0) rfl (by kernel_rfl) rfl) ?_
   refine rl_ow rfl (ow_storeFld (a' := setCash ((X.d0 i).acct i) 0) rfl rfl (by kernel_rfl) hO14 3 hr0 rfl rfl ⟨by omega, by omega⟩ (by decide) rfl rfl rfl) ?_
   rintro _ w16 ⟨c1, rfl, hO17, hr1, hs18⟩
   refine rl_nil <| run_seq <| run_seq <| run_region <| rl_ow rfl (ow_build1 [_, _, _, _] rfl rfl rfl rfl rfl Try.underlying141 info_139 (by decide) hO17 rfl rfl) ?_
   rintro _ w19 ⟨b35, rfl, hO20, hs21⟩
   refine rl_v rfl rfl rfl (ov_len rfl Try.underlying141 rfl) <| rl_v rfl rfl rfl (ov_move rfl rfl) <| rl_nil <| run_block <| run_once <| run_seq <| run_region <| rl_v rfl rfl rfl (ov_lss rfl rfl rfl) <| rl_nil <| run_seq ?_
   first | refine run_cond_dec rfl (fun q0 => ?_) (fun q0 => ?_) | refine run_cond rfl (fun q0 => ?_) (fun q0 => ?_)
   ·refine run_skip <| run_seq <| run_block <| run_seq <| run_region <| rl_v rfl rfl rfl (ov_move rfl rfl) <| rl_v rfl rfl rfl (ov_index1 rfl Try.underlying141 (by kernel_rfl) rfl rfl ⟨by omega, by omega⟩ rfl) ?_
    refine rl_v rfl rfl rfl (ov_load rfl Try.underlying139 rfl rfl (by exact hO20.cellI 0 rfl 0 (by decide) (by decide))) ?_
    refine rl_v rfl rfl rfl (ov_assign rfl rfl) <| rl_v rfl rfl rfl (ov_assign rfl rfl) <| rl_nil <| run_seq <| run_region <| rl_v rfl rfl rfl (ov_move rfl rfl) <| rl_v rfl rfl rfl (ov_move rfl rfl) <| rl_v rfl rfl rfl (ov_move rfl rfl) <| rl_v rfl rfl rfl (ov_move rfl rfl) <| rl_v rfl rfl rfl (ov_move rfl rfl) ?_
    refine rl_call callable_68 rfl rfl rfl rfl rfl rfl (own_any hb B (X.d1 i) { K with blk := c1 } i (X.l0 i) _ w0 w19 hO20 3 4 rfl rfl hr1 (by show X.mem ≤ 64; omega) hi2 (by rw [f1]; exact hfu) (by omega)) (fun e22 w23 hp24 => ?_)
    obtain ⟨rfl, c2, hr2, hO4⟩ := hp24
    refine ⟨_, rfl, ?_⟩
    refine rl_v rfl rfl rfl (ov_indexA1 rfl Try.underlying138 (by kernel_rfl) rfl rfl ⟨by omega, by omega⟩) ?_
    refine rl_ow rfl (ow_storeI rfl rfl (by kernel_rfl) hO4 1 rfl rfl ⟨by omega, by omega⟩ rfl) ?_
    rintro _ w25 ⟨rfl, hO26, hs27⟩
    refine rl_nil <| run_region <| rl_v rfl rfl rfl (ov_move rfl rfl) <| rl_v rfl rfl rfl (ov_move rfl rfl) <| rl_v rfl rfl rfl (ov_indexA1 rfl Try.underlying138 (by kernel_rfl) rfl rfl ⟨by omega, by omega⟩) ?_
    refine rl_v rfl rfl rfl (ov_load rfl Try.underlying2 rfl rfl (by exact (show _ = some (iv (X.t0 i)) from (hO26.cellI 1 rfl 0 (by decide) (by decide)).trans (congrArg (fun x => some (iv x)) (upd_same _ _ _))))) ?_
    refine rl_v rfl rfl rfl (ov_sub rfl rfl rfl (by omega)) ?_
    refine rl_v rfl rfl rfl (ov_assign rfl rfl) <| rl_nil <| run_inBlock <| run_region <| rl_v rfl rfl rfl (ov_add rfl rfl rfl (by omega)) ?_
    refine rl_v rfl rfl rfl (ov_move rfl rfl) <| rl_nil <| run_again <| run_seq <| run_region <| rl_v rfl rfl rfl (ov_lss rfl rfl rfl) <| rl_nil <| run_seq ?_
    first | refine run_cond_dec rfl (fun q1 => ?_) (fun q1 => ?_) | refine run_cond rfl (fun q1 => ?_) (fun q1 => ?_)
    ·refine run_skip <| run_seq <| run_block <| run_seq <| run_region <| rl_v rfl rfl rfl (ov_move rfl rfl) <| rl_v rfl rfl rfl (ov_index1 rfl Try.underlying141 (by kernel_rfl) rfl rfl ⟨by omega, by omega⟩ rfl) ?_
     refine rl_v rfl rfl rfl (ov_load rfl Try.underlying139 rfl rfl (by exact hO26.cellI 0 rfl 1 (by decide) (by decide))) ?_
     refine rl_v rfl rfl rfl (ov_assign rfl rfl) <| rl_v rfl rfl rfl (ov_assign rfl rfl) <| rl_nil <| run_seq <| run_region <| rl_v rfl rfl rfl (ov_move rfl rfl) <| rl_v rfl rfl rfl (ov_move rfl rfl) <| rl_v rfl rfl rfl (ov_move rfl rfl) <| rl_v rfl rfl rfl (ov_move rfl rfl) <| rl_v rfl rfl rfl (ov_move rfl rfl) ?_
     refine rl_call callable_69 rfl rfl rfl rfl rfl rfl (house_any hb B (X.d2 i) { K with blk := c2 } i (X.l1 i) _ w0 w25 hO26 3 rfl ⟨by rw [hcap2]; omega, by rw [hcap2]; omega⟩ (by omega)) (fun e28 w29 hp30 => ?_)
     obtain ⟨rfl, hO5⟩ := hp30
     refine ⟨_, rfl, ?_⟩
     have hO5' : Own B w0 w29 (_ :: _ :: _ :: houB hb ((X.d3 i).r { K with blk := c2 }) :: c2 :: (N ++ R)) := hO5
     refine rl_v rfl rfl rfl (ov_indexA1 rfl Try.underlying138 (by kernel_rfl) rfl rfl ⟨by omega, by omega⟩) ?_
     refine rl_ow rfl (ow_storeI rfl rfl (by kernel_rfl) hO5' 1 rfl rfl ⟨by omega, by omega⟩ rfl) ?_
     rintro _ w31 ⟨rfl, hO32, hs33⟩
     refine rl_nil <| run_region <| rl_v rfl rfl rfl (ov_move rfl rfl) <| rl_v rfl rfl rfl (ov_move rfl rfl) <| rl_v rfl rfl rfl (ov_indexA1 rfl Try.underlying138 (by kernel_rfl) rfl rfl ⟨by omega, by omega⟩) ?_
     refine rl_v rfl rfl rfl (ov_load rfl Try.underlying2 rfl rfl (by exact (show _ = some (iv (X.t1 i)) from (hO32.cellI 1 rfl 1 (by decide) (by decide)).trans (congrArg (fun x => some (iv x)) (upd_same _ _ _))))) ?_
     refine rl_v rfl rfl rfl (ov_sub rfl rfl rfl (by omega)) ?_
     refine rl_v rfl rfl rfl (ov_assign rfl rfl) <| rl_nil <| run_inBlock <| run_region <| rl_v rfl rfl rfl (ov_add rfl rfl rfl (by omega)) ?_
     refine rl_v rfl rfl rfl (ov_move rfl rfl) <| rl_nil <| run_again <| run_seq <| run_region <| rl_v rfl rfl rfl (ov_lss rfl rfl rfl) <| rl_nil <| run_seq ?_
     first | refine run_cond_dec rfl (fun q2 => ?_) (fun q2 => ?_) | refine run_cond rfl (fun q2 => ?_) (fun q2 => ?_)
     ·have hK3 : HOk (X.d3 i) { K with blk := c2 } N := ⟨hr2, hK.mv, hK.ct, hK.cz, hK.cc⟩
      refine run_skip <| run_seq <| run_block <| run_seq <| run_region <| rl_v rfl rfl rfl (ov_move rfl rfl) <| rl_v rfl rfl rfl (ov_index1 rfl Try.underlying141 (by kernel_rfl) rfl rfl ⟨by omega, by omega⟩ rfl) ?_
      refine rl_v rfl rfl rfl (ov_load rfl Try.underlying139 rfl rfl (by exact hO32.cellI 0 rfl 2 (by decide) (by decide))) ?_
      refine rl_v rfl rfl rfl (ov_assign rfl rfl) <| rl_v rfl rfl rfl (ov_assign rfl rfl) <| rl_nil <| run_seq <| run_region <| rl_v rfl rfl rfl (ov_move rfl rfl) <| rl_v rfl rfl rfl (ov_move rfl rfl) <| rl_v rfl rfl rfl (ov_move rfl rfl) <| rl_v rfl rfl rfl (ov_move rfl rfl) <| rl_v rfl rfl rfl (ov_move rfl rfl) ?_
      refine rl_call callable_70 rfl rfl rfl rfl rfl rfl (funds_any hb B (X.d3 i) { K with blk := c2 } i (X.l2 i) N _ w0 w31 hO32 3 4 (fun _ => rfl) (fun _ => rfl) rfl hK3 hm20 hi2 hfund3 ⟨by omega, by omega⟩) (fun e34 w35 hp36 => ?_)
      obtain ⟨rfl, c3, hr3, hO6⟩ := hp36
      refine ⟨_, rfl, ?_⟩
      have e4 : (X.d4 i).r { K with blk := c3 } = (X.d3 i).r { K with blk := c2 } := r_ac (X.d3 i) _ K c3 c2
      replace hO6 : Own B w0 w35 (_ :: _ :: _ :: houB hb ((X.d3 i).r { K with blk := c2 }) :: c3 :: (N ++ R)) := hO6
      rw [← e4] at hO6
      refine rl_v rfl rfl rfl (ov_indexA1 rfl Try.underlying138 (by kernel_rfl) rfl rfl ⟨by omega, by omega⟩) ?_
      refine rl_ow rfl (ow_storeI rfl rfl (by kernel_rfl) hO6 1 rfl rfl ⟨by omega, by omega⟩ rfl) ?_
      rintro _ w37 ⟨rfl, hO38, hs39⟩
      refine rl_nil <| run_region <| rl_v rfl rfl rfl (ov_move rfl rfl) <| rl_v rfl rfl rfl (ov_move rfl rfl) <| rl_v rfl rfl rfl (ov_indexA1 rfl Try.underlying138 (by kernel_rfl) rfl rfl ⟨by omega, by omega⟩) ?_
      refine rl_v rfl rfl rfl (ov_load rfl Try.underlying2 rfl rfl (by exact (show _ = some (iv (X.t2 i)) from (hO38.cellI 1 rfl 2 (by decide) (by decide)).trans (congrArg (fun x => some (iv x)) (upd_same _ _ _))))) ?_
      refine rl_v rfl rfl rfl (ov_sub rfl rfl rfl (by omega)) ?_
      refine rl_v rfl rfl rfl (ov_assign rfl rfl) <| rl_nil <| run_inBlock <| run_region <| rl_v rfl rfl rfl (ov_add rfl rfl rfl (by omega)) ?_
      refine rl_v rfl rfl rfl (ov_move rfl rfl) <| rl_nil <| run_again <| run_seq <| run_region <| rl_v rfl rfl rfl (ov_lss rfl rfl rfl) <| rl_nil <| run_seq ?_
      first | refine run_cond_dec rfl (fun q3 => ?_) (fun q3 => ?_) | refine run_cond rfl (fun q3 => ?_) (fun q3 => ?_)
      ·have hK4 : HOk (X.d4 i) { K with blk := c3 } N := ⟨hr3, hK.mv, hK.ct, hK.cz, hK.cc⟩
       refine run_skip <| run_seq <| run_block <| run_seq <| run_region <| rl_v rfl rfl rfl (ov_move rfl rfl) <| rl_v rfl rfl rfl (ov_index1 rfl Try.underlying141 (by kernel_rfl) rfl rfl ⟨by omega, by omega⟩ rfl) ?_
       refine rl_v rfl rfl rfl (ov_load rfl Try.underlying139 rfl rfl (by exact hO38.cellI 0 rfl 3 (by decide) (by decide))) ?_
       refine rl_v rfl rfl rfl (ov_assign rfl rfl) <| rl_v rfl rfl rfl (ov_assign rfl rfl) <| rl_nil <| run_seq <| run_region <| rl_v rfl rfl rfl (ov_move rfl rfl) <| rl_v rfl rfl rfl (ov_move rfl rfl) <| rl_v rfl rfl rfl (ov_move rfl rfl) <| rl_v rfl rfl rfl (ov_move rfl rfl) <| rl_v rfl rfl rfl (ov_move rfl rfl) ?_
       refine rl_call callable_71 rfl rfl rfl rfl rfl rfl (gains_any hb B (X.d4 i) { K with blk := c3 } i (X.l3 i) N _ w0 w37 hO38 3 4 (fun _ => rfl) (fun _ => rfl) rfl hK4 hm20 hi2 hcash4 ⟨by omega, by omega⟩) (fun e40 w41 hp42 => ?_)
       obtain ⟨rfl, c4, hr4, hO7⟩ := hp42
       refine ⟨_, rfl, ?_⟩
       have e5 : (X.d5 i).r { K with blk := c4 } = (X.d4 i).r { K with blk := c3 } := r_ac (X.d4 i) _ K c4 c3
       replace hO7 : Own B w0 w41 (_ :: _ :: _ :: houB hb ((X.d4 i).r { K with blk := c3 }) :: c4 :: (N ++ R)) := hO7
       rw [← e5] at hO7
       refine rl_v rfl rfl rfl (ov_indexA1 rfl Try.underlying138 (by kernel_rfl) rfl rfl ⟨by omega, by omega⟩) ?_
       refine rl_ow rfl (ow_storeI rfl rfl (by kernel_rfl) hO7 1 rfl rfl ⟨by omega, by omega⟩ rfl) ?_
       rintro _ w43 ⟨rfl, hO44, hs45⟩
       refine rl_nil <| run_region <| rl_v rfl rfl rfl (ov_move rfl rfl) <| rl_v rfl rfl rfl (ov_move rfl rfl) <| rl_v rfl rfl rfl (ov_indexA1 rfl Try.underlying138 (by kernel_rfl) rfl rfl ⟨by omega, by omega⟩) ?_
       refine rl_v rfl rfl rfl (ov_load rfl Try.underlying2 rfl rfl (by exact (show _ = some (iv (X.t3 i)) from (hO44.cellI 1 rfl 3 (by decide) (by decide)).trans (congrArg (fun x => some (iv x)) (upd_same _ _ _))))) ?_
       refine rl_v rfl rfl rfl (ov_sub rfl rfl rfl (by omega)) ?_
       refine rl_v rfl rfl rfl (ov_assign rfl rfl) <| rl_nil <| run_inBlock <| run_region <| rl_v rfl rfl rfl (ov_add rfl rfl rfl (by omega)) ?_
       refine rl_v rfl rfl rfl (ov_move rfl rfl) <| rl_nil <| run_again <| run_seq <| run_region <| rl_v rfl rfl rfl (ov_lss rfl rfl rfl) <| rl_nil <| run_seq ?_
       first | refine run_cond_dec rfl (fun q4 => ?_) (fun q4 => ?_) | refine run_cond rfl (fun q4 => ?_) (fun q4 => ?_)
       ·exfalso; omega
       ·have ed : X.dflt i = X.d7 i := (if_pos ha0).trans (if_pos hl')
        have el : X.loss i = [X.t0 i, X.t1 i, X.t2 i, X.t3 i, X.l4 i] := if_pos ⟨ha0, hl'⟩
        have hh : (X.d5 i).hole = X.hole := by simp only [HM.d5, HM.d4, HM.d3, HM.d2, HM.d1, HM.d0, HM.setA]
        have hho := hG.hole
        refine run_exit rfl <| run_seq <| run_region <| rl_v rfl rfl rfl (ov_move rfl rfl) <| rl_v rfl rfl rfl (ov_nil rfl rfl) <| rl_v rfl rfl rfl (ov_fieldS rfl Try.underlying124 rfl (fo := 16) rfl (by kernel_rfl) rfl) ?_
        refine rl_v rfl rfl rfl (ov_load rfl Try.underlying2 rfl rfl (by exact (show _ = some (iv (X.d5 i).hole) from hO44.cellL 3 rfl (off := 16) rfl))) ?_
        refine rl_v rfl rfl rfl (ov_move rfl rfl) <| rl_v rfl rfl rfl (ov_add rfl rfl rfl (by show _ ≤ (X.d5 i).hole + X.l4 i ∧ (X.d5 i).hole + X.l4 i ≤ _; omega)) ?_
        refine rl_v rfl rfl rfl (ov_nil rfl rfl) <| rl_v rfl rfl rfl (ov_fieldS rfl Try.underlying124 rfl (fo := 16) rfl (by kernel_rfl) rfl) ?_
        refine rl_ow rfl (ow_storeLx (v := iv ((X.d5 i).hole + X.l4 i)) rfl rfl (by kernel_rfl) hO44 3 rfl rfl (by show 0 + 16 < (((X.d5 i).r { K with blk := c4 }).l).length; simp [HR.l, monL]) rfl rfl) ?_
        rintro _ w46 ⟨rfl, hO47, hs48⟩
        have hK5 : HOk (X.d5 i) { K with blk := c4 } N := hok_ac (X.d4 i) hK4 _ hr4
        have hm5 : (X.d5 i).mem = X.mem := by simp only [HM.d5, HM.d4, HM.d3, HM.d2, HM.d1, HM.d0, HM.setA]
        have hO75 : Own B w0 w46 (_ :: _ :: _ :: some (lch hb 124 (((X.d5 i).r { K with blk := c4 }).l.set (0 + 16) (iv ((X.d5 i).hole + X.l4 i)))) :: c4 :: (N ++ R)) := hO47
        rw [r_hole] at hO75
        have hO76 : Own B w0 w46 (_ :: _ :: _ :: houB hb ((X.d6 i).r { K with blk := c4 }) :: c4 :: (N ++ R)) := hO75
        refine rl_nil <| run_seq <| run_region <| rl_v rfl rfl rfl (ov_move rfl rfl) <| rl_v rfl rfl rfl (ov_nil rfl rfl) <| rl_v rfl rfl rfl (ov_fieldS rfl Try.underlying127 rfl (fo := 14) rfl (by kernel_rfl) rfl) ?_
        refine rl_ow rfl (ow_storeFld (G := (X.d5 i).ac) (i := i - 1) (a' := { (X.d5 i).ac (i - 1) with out := true }) rfl rfl (by kernel_rfl) hO76 4 hK5.acc rfl rfl ⟨by omega, by omega⟩ (by decide) rfl rfl (accL_out _)) ?_
        rintro _ w49 ⟨c5, rfl, hO50, hr5, hs51⟩
        refine rl_nil <| run_seq <| run_region <| rl_v rfl rfl rfl (ov_indexA1 rfl Try.underlying138 (by kernel_rfl) rfl rfl ⟨by omega, by omega⟩) ?_
        refine rl_v rfl rfl rfl (ov_load rfl Try.underlying2 rfl rfl (by exact (show _ = some (iv (X.t0 i)) from hO50.cellI 1 rfl 0 (by decide) (by decide)))) ?_
        refine rl_v rfl rfl rfl (ov_indexA1 rfl Try.underlying138 (by kernel_rfl) rfl rfl ⟨by omega, by omega⟩) ?_
        refine rl_v rfl rfl rfl (ov_load rfl Try.underlying2 rfl rfl (by exact (show _ = some (iv (X.t1 i)) from hO50.cellI 1 rfl 1 (by decide) (by decide)))) ?_
        refine rl_v rfl rfl rfl (ov_indexA1 rfl Try.underlying138 (by kernel_rfl) rfl rfl ⟨by omega, by omega⟩) ?_
        refine rl_v rfl rfl rfl (ov_load rfl Try.underlying2 rfl rfl (by exact (show _ = some (iv (X.t2 i)) from hO50.cellI 1 rfl 2 (by decide) (by decide)))) ?_
        refine rl_v rfl rfl rfl (ov_indexA1 rfl Try.underlying138 (by kernel_rfl) rfl rfl ⟨by omega, by omega⟩) ?_
        refine rl_v rfl rfl rfl (ov_load rfl Try.underlying2 rfl rfl (by exact (show _ = some (iv (X.t3 i)) from hO50.cellI 1 rfl 3 (by decide) (by decide)))) ?_
        refine rl_v rfl rfl rfl (ov_move rfl rfl) <| rl_v rfl rfl rfl (ov_buildL rfl lay_60 rfl (us := [_, _, _, _, _]) rfl) <| rl_ow rfl (ow_storeW rfl rfl (by kernel_rfl) hO50 2 rfl rfl (by rfl) rfl (by rfl)) ?_
        rintro _ w52 ⟨rfl, hO53, hs54⟩
        have e7 : (X.d7 i).r { K with blk := c5 } = (X.d6 i).r { K with blk := c4 } := r_set (X.d6 i) i _ K c5 c4
        have hO8 : Own B w0 w52 (houB hb ((X.d7 i).r { K with blk := c5 }) :: c5 :: (N ++ R)) := by rw [e7]; exact hO53.tail.tail.tail
        refine rl_v rfl rfl rfl (ov_assign rfl rfl) <| rl_nil <| run_ret Try.func29 (resW2 Try.results29 rfl rfl Try.underlying60 rfl (by kernel_rfl) hO53 2 rfl) ?_
        exact ⟨by rw [el, ha0]; rfl, by rw [ed]; exact ⟨{ K with blk := c5 }, N, hO8, hok_set (X.d5 i) hK5 _ i _ hr5, hPl⟩⟩
      ·exfalso; omega
     ·exfalso; omega
    ·exfalso; omega
   ·exfalso; omega
  ·have ed : X.dflt i = (X.d0 i).setA i { (X.d0 i).acct i with out := true } := (if_pos ha0).trans (if_neg hl)
   have el : X.loss i = [0, 0, 0, 0, 0] := if_neg fun h => hl h.2
   refine run_skip <| run_seq <| run_region <| rl_v rfl rfl rfl (ov_move rfl rfl) <| rl_v rfl rfl rfl (ov_nil rfl rfl) <| rl_v rfl rfl rfl (ov_fieldS rfl Try.underlying127 rfl (fo := 14) rfl (by kernel_rfl) rfl) ?_
   refine rl_ow rfl (ow_storeFld (a' := { (X.d0 i).acct i with out := true }) rfl rfl (by kernel_rfl) hO14 3 hr0 rfl rfl ⟨by omega, by omega⟩ (by decide) rfl rfl rfl) ?_
   rintro _ w55 ⟨c5, rfl, hO56, hr5, hs57⟩
   refine rl_nil <| run_seq <| run_region <| rl_v rfl rfl rfl (ov_buildL rfl lay_60 rfl (us := [_, _, _, _, _]) rfl) <| rl_ow rfl (ow_storeW rfl rfl (by kernel_rfl) hO56 1 rfl rfl (by rfl) rfl (by rfl)) ?_
   rintro _ w58 ⟨rfl, hO59, hs60⟩
   have e8 : ((X.d0 i).setA i { (X.d0 i).acct i with out := true }).r { K with blk := c5 } = (X.d0 i).r { K with blk := c0 } := r_set (X.d0 i) i _ K c5 c0
   have e9 : (X.d0 i).r { K with blk := c0 } = X.r K := r_ac X _ K c0 K.blk
   have hO8 : Own B w0 w58 (houB hb (((X.d0 i).setA i { (X.d0 i).acct i with out := true }).r { K with blk := c5 }) :: c5 :: (N ++ R)) := by rw [e8, e9]; exact hO59.tail.tail
   refine rl_v rfl rfl rfl (ov_assign rfl rfl) <| rl_nil <| run_ret Try.func29 (resW2 Try.results29 rfl rfl Try.underlying60 rfl (by kernel_rfl) hO59 1 rfl) ?_
   exact ⟨by rw [el, ha0]; rfl, by rw [ed]; exact ⟨{ K with blk := c5 }, N, hO8, ⟨hr5, hK.mv, hK.ct, hK.cz, hK.cc⟩, hPl⟩⟩
end Go.Proofs.Ytfbbagnpdfafjaa
