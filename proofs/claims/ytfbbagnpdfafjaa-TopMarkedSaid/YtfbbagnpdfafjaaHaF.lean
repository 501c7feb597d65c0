import Derived.Test.YtfbbagnpdfafjaaHaE
set_option maxRecDepth 100000
namespace Go.Proofs.Ytfbbagnpdfafjaa
open Go.RowKit Go.Proofs
def HA.z : HA := ⟨0, 0, fun _ => 0, false⟩
def HM.setA (X : HM) (i : Int) (a : HA) : HM := { X with ac := upd X.ac (i - 1) a }
def HM.need (X : HM) (a : HA) : Int := marF X.mv X.k X.rate a.pos X.pr
def HM.mny (X : HM) (i a : Int) : Int := if X.act i ≠ 0 then X.act i else if 1 ≤ a ∧ a ≤ 1000000000000 then 0 else 1
theorem accs_upd {ac : Int → HA} {i : Int} {L : List Value} {a : HA} (e : L = accL a) (j : Int) : upd (fun i => accL (ac i)) i L j = accL (upd ac i a j) := by
 unfold upd
 split
 ·exact e
 ·rfl
theorem HOk.setA {X : HM} {K : HK} {N : List (Option Blk)} (h : HOk X K N) {i : Int} {L : List Value} {a : HA} {c : Option Blk} (hr : SRow (.slice (some ⟨K.ab, 0, none⟩) X.mem K.acap) 127 15 X.mem (upd (fun i => accL (X.ac i)) (i - 1) L) c) (e : L = accL a) : HOk (X.setA i a) { K with blk := c } N :=
 ⟨hr.congr fun j _ _ => accs_upd e j, h.mv, h.ct, h.cz, h.cc⟩
def HM.kno (X : HM) (i : Int) : HA := if X.is i then X.acct i else HA.z
theorem known_any (hb B : Nat) (X : HM) (K : HK) (i : Int) (N H : List (Option Blk)) (w0 w : World) (hO : Own B w0 w H) (k kb : Nat) (hk : H[k]? = some (houB hb (X.r K))) (hkb : H[kb]? = some K.blk) (hK : HOk X K N) (hG : HG X) :
  Calls Try.prog 62 #[ptr hb, iv i] w fun e w' => e = .returned (.tuple #[.agg (accL (X.kno i)).toArray, iv (if X.is i then 0 else 4)]) ∧ Own B w0 w' H := by
 have hmem := hG.mem
 refine calls_of_run (F := [(0, _), (1, _)]) Try.func62 rfl Try.ntmps62 rfl rfl <| run_seq <| run_region <| rl_ow rfl (ow_alloc _ rfl rfl rfl zero_127 rfl hO) ?_
 rintro _ w1 ⟨b4, rfl, hO2, hs3⟩
 refine rl_v rfl rfl rfl (ov_assign rfl rfl) <| rl_nil <| run_seq <| run_seq <| run_region <| rl_v rfl rfl rfl (ov_move rfl rfl) <| rl_v rfl rfl rfl (ov_ptrnil rfl Try.underlying30 rfl) <| rl_nil <| run_cond_f rfl <| run_skip <| run_seq <| run_seq <| run_region <| rl_v rfl rfl rfl (ov_move rfl rfl) <| rl_v rfl rfl rfl (ov_move rfl rfl) ?_
 refine rl_call callable_110 rfl rfl rfl rfl rfl rfl (isMember_any hb B (k + 1) (X.r K) i _ w0 w1 hO2 hk) (fun e4 w5 hp6 => ?_)
 obtain ⟨rfl, hw⟩ := hp6
 refine ⟨_, rfl, ?_⟩
 subst hw
 refine rl_v rfl rfl rfl (ov_not rfl rfl) <| rl_nil ?_
 first | refine run_cond_dec rfl (fun c => ?_) (fun c => ?_) | refine run_cond rfl (fun c => ?_) (fun c => ?_)
 ·have hi : ¬ X.is i := ndt c
  refine run_seq <| run_region <| rl_v rfl rfl rfl (ov_buildL rfl lay_127 rfl (us := [_, _, _, _, _, _, _, _, _, _, _, _, _, _, _]) rfl) <| rl_ow rfl (ow_storeW rfl rfl (by kernel_rfl) hO2 0 rfl rfl (by rfl) rfl (by rfl)) ?_
  rintro _ w7 ⟨rfl, hO8, hs9⟩
  refine rl_v rfl rfl rfl (ov_assign rfl rfl) <| rl_nil <| run_ret Try.func62 (resW2 Try.results62 rfl rfl Try.underlying127 rfl (by kernel_rfl) hO8 0 rfl) ?_
  exact ⟨by unfold HM.kno; rw [if_neg hi, if_neg hi]; rfl, hO8.tail⟩
 ·have hi : X.is i := ndf c
  have hi2 : 1 ≤ i ∧ i ≤ X.mem := hi
  refine run_skip <| run_seq <| run_region <| rl_v rfl rfl rfl (ov_move rfl rfl) <| rl_v rfl rfl rfl (ov_nil rfl rfl) <| rl_v rfl rfl rfl (ov_fieldS rfl Try.underlying124 rfl (fo := 17) rfl (by kernel_rfl) rfl) ?_
  refine rl_v rfl rfl rfl (ov_load rfl Try.underlying120 rfl rfl (by exact hO2.cellL (k + 1) hk (off := 17) rfl)) ?_
  refine rl_v rfl rfl rfl (ov_move rfl rfl) <| rl_v rfl rfl rfl (ov_sub rfl rfl rfl (by omega)) ?_
  refine rl_v rfl rfl rfl (ov_index rfl Try.underlying120 (by kernel_rfl) (s := 15) rfl rfl ⟨by omega, show i - 1 < (X.mem : Int) by omega⟩ rfl) ?_
  refine rl_v rfl rfl rfl (ov_loadE rfl Try.underlying127 rfl (by kernel_rfl) rfl ⟨by omega, by omega⟩ rfl (hK.reads hO2 (kb + 1) hkb)) ?_
  refine rl_ow rfl (ow_storeW rfl rfl (by kernel_rfl) hO2 0 rfl rfl (by rfl) rfl (by rfl)) ?_
  rintro _ w10 ⟨rfl, hO11, hs12⟩
  refine rl_v rfl rfl rfl (ov_assign rfl rfl) <| rl_nil <| run_ret Try.func62 (resW2 Try.results62 rfl rfl Try.underlying127 rfl (by kernel_rfl) hO11 0 rfl) ?_
  exact ⟨by unfold HM.kno; rw [if_pos hi, if_pos hi]; rfl, hO11.tail⟩
theorem mny_act {X : HM} {i a : Int} (h : X.act i ≠ 0) : X.mny i a = X.act i := if_pos h
theorem mny_ok {X : HM} {i a : Int} (h : X.act i = 0) : X.mny i a = if 1 ≤ a ∧ a ≤ 1000000000000 then 0 else 1 := if_neg (by omega)
def HM.deposit (X : HM) (i a : Int) : HM := if X.mny i a = 0 then X.setA i { X.acct i with cash := (X.acct i).cash + a } else X
theorem deposit_any (hb B : Nat) (X : HM) (i a : Int) (Pl R : List (Option Blk)) (w0 w : World) (h : HAt B w0 w hb X Pl R) (hG : HG X) :
  Calls Try.prog 23 #[ptr hb, iv i, iv a] w fun e w' => e = .returned (iv (X.mny i a)) ∧ HAt B w0 w' hb (X.deposit i a) Pl R := by
 obtain ⟨K, N, hO, hK, hPl⟩ := h
 refine calls_of_run (F := [(0, _), (1, _), (2, _)]) Try.func23 rfl Try.ntmps23 rfl rfl <| run_seq <| run_region <| rl_v rfl rfl rfl (ov_assign rfl rfl) <| rl_nil <| run_seq <| run_region <| rl_v rfl rfl rfl (ov_move rfl rfl) <| rl_v rfl rfl rfl (ov_move rfl rfl) ?_
 refine rl_call callable_61 rfl rfl rfl rfl rfl rfl (active_any hb B X K i N _ w0 w hO 0 1 rfl rfl hK hG) (fun e1 w2 hp3 => ?_)
 obtain ⟨pv, rfl, hpv, hw⟩ := hp3
 refine ⟨_, rfl, ?_⟩
 subst hw
 refine rl_v rfl rfl rfl (ov_move rfl rfl) <| rl_v rfl rfl rfl (ov_extract rfl rfl (by rfl)) ?_
 refine rl_v rfl rfl rfl (ov_extract rfl rfl (by rfl)) ?_
 refine rl_v rfl rfl rfl (ov_assign rfl rfl) <| rl_v rfl rfl rfl (ov_assign rfl rfl) <| rl_nil <| run_seq <| run_seq <| run_region <| rl_v rfl rfl rfl (ov_move rfl rfl) <| rl_v rfl rfl rfl (ov_neq rfl rfl rfl) <| rl_nil ?_
 first | refine run_cond_dec rfl (fun ha => ?_) (fun ha => ?_) | refine run_cond rfl (fun ha => ?_) (fun ha => ?_)
 ·have em : X.mny i a = X.act i := mny_act ha
  have ex : X.deposit i a = X := if_neg (by rw [em]; exact ha)
  refine run_seq <| run_region <| rl_v rfl rfl rfl (ov_move rfl rfl) <| rl_v rfl rfl rfl (ov_assign rfl rfl) <| rl_nil <| run_ret Try.func23 (res1 Try.results23 rfl) ?_
  exact ⟨by rw [em]; rfl, by rw [ex]; exact ⟨K, N, hO, hK, hPl⟩⟩
 ·have ha0 : X.act i = 0 := by omega
  obtain ⟨rfl, hi, ho⟩ := hpv ha0
  have hi2 : 1 ≤ i ∧ i ≤ X.mem := hi
  have hmem := hG.mem
  have hca : (X.acct i).cash.natAbs ≤ 10000000000000000 := hG.cash (i - 1) (by omega) (by omega)
  have em := mny_ok (a := a) ha0
  refine run_skip <| run_seq <| run_seq <| run_region <| rl_v rfl rfl rfl (ov_move rfl rfl) ?_
  refine rl_call callable_54 rfl rfl rfl rfl rfl rfl (in_any a 1 1000000000000 w2) (fun e4 w5 hp6 => ?_)
  obtain ⟨rfl, hw⟩ := hp6
  refine ⟨_, rfl, ?_⟩
  subst hw
  refine rl_v rfl rfl rfl (ov_not rfl rfl) <| rl_nil ?_
  first | refine run_cond_dec rfl (fun c => ?_) (fun c => ?_) | refine run_cond rfl (fun c => ?_) (fun c => ?_)
  ·have c2 := ndt c
   have em2 : X.mny i a = 1 := em.trans (if_neg c2)
   have ex : X.deposit i a = X := if_neg (by rw [em2]; decide)
   refine run_seq <| run_region <| rl_v rfl rfl rfl (ov_assign rfl rfl) <| rl_nil <| run_ret Try.func23 (res1 Try.results23 rfl) ?_
   exact ⟨by rw [em2], by rw [ex]; exact ⟨K, N, hO, hK, hPl⟩⟩
  ·have c2 := ndf c
   have em2 : X.mny i a = 0 := em.trans (if_pos c2)
   have ex : X.deposit i a = X.setA i { X.acct i with cash := (X.acct i).cash + a } := if_pos em2
   refine run_skip <| run_seq <| run_region <| rl_v rfl rfl rfl (ov_move rfl rfl) <| rl_v rfl rfl rfl (ov_nil rfl rfl) <| rl_v rfl rfl rfl (ov_fieldS rfl Try.underlying127 rfl (fo := 0) rfl (by kernel_rfl) rfl) ?_
   refine rl_v rfl rfl rfl (ov_load rfl Try.underlying2 rfl rfl (by exact (show _ = some (iv (X.acct i).cash) from hK.reads hO 1 rfl (i - 1) (by omega) (by omega) 0 (by decide)))) ?_
   refine rl_v rfl rfl rfl (ov_move rfl rfl) <| rl_v rfl rfl rfl (ov_add rfl rfl rfl (by omega)) ?_
   refine rl_v rfl rfl rfl (ov_nil rfl rfl) <| rl_v rfl rfl rfl (ov_fieldS rfl Try.underlying127 rfl (fo := 0) rfl (by kernel_rfl) rfl) ?_
   refine rl_ow rfl (ow_storeR rfl rfl (by kernel_rfl) hO 1 hK.acc rfl (fun _ => rfl) rfl ⟨by omega, by omega⟩ rfl rfl rfl rfl) ?_
   rintro _ w7 ⟨c2, rfl, hO8, hR2, hs9⟩
   refine rl_nil <| run_seq <| run_region <| rl_v rfl rfl rfl (ov_assign rfl rfl) <| rl_nil <| run_ret Try.func23 (res1 Try.results23 rfl) ?_
   exact ⟨by rw [em2], by rw [ex]; exact ⟨{ K with blk := c2 }, N, hO8, hK.setA hR2 rfl, hPl⟩⟩
end Go.Proofs.Ytfbbagnpdfafjaa
