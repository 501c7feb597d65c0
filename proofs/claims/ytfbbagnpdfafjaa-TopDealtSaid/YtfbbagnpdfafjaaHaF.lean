import Derived.Test.YtfbbagnpdfafjaaHaE
set_option maxRecDepth 100000
namespace Go.Proofs.Ytfbbagnpdfafjaa
open Go.RowKit Go.Proofs
def HA.z : HA := ⟨0, 0, fun _ => 0, false⟩
def HM.setA (X : HM) (i : Int) (a : HA) : HM := { X with ac := upd X.ac (i - 1) a }
def HM.need (X : HM) (a : HA) : Int := marF X.mv X.k X.rate a.pos X.pr
def HM.mny (X : HM) (i a : Int) : Int := if X.act i ≠ 0 then X.act i else if 1 ≤ a ∧ a ≤ 1000000000000 then 0 else 1
def HM.spd (X : HM) (i a : Int) : Int := if X.mny i a ≠ 0 then X.mny i a else if (X.acct i).cash < a then 9 else if X.need (X.acct i) ≤ (X.acct i).cash - a then 0 else 90
theorem accs_upd {ac : Int → HA} {i : Int} {L : List Value} {a : HA} (e : L = accL a) (j : Int) : upd (fun i => accL (ac i)) i L j = accL (upd ac i a j) := by
 unfold upd
 split
 ·exact e
 ·rfl
theorem HOk.setA {X : HM} {K : HK} {N : List (Option Blk)} (h : HOk X K N) {i : Int} {L : List Value} {a : HA} {c : Option Blk} (hr : SRow (.slice (some ⟨K.ab, 0, none⟩) X.mem K.acap) 127 15 X.mem (upd (fun i => accL (X.ac i)) (i - 1) L) c) (e : L = accL a) : HOk (X.setA i a) { K with blk := c } N :=
 ⟨hr.congr fun j _ _ => accs_upd e j, h.mv, h.ct, h.cz, h.cc⟩
def HM.kno (X : HM) (i : Int) : HA := if X.is i then X.acct i else HA.z
theorem known_any (hb B : Nat) (X : HM) (K : HK) (i : Int) (N H : List (Option Blk)) (w0 w : World) (hO : Own B w0 w H) (k kb : Nat) (hk : H[k]? = some (houB hb (X.r K))) (hkb : H[kb]? = some K.blk) (hK : HOk X K N) (hG : HG X) :
  Calls Try.prog 62 #[ptr hb, iv i] w fun e w' => e = .returned (.tuple #[.agg (accL (X.kno i)).toArray, iv (if X.is i then 0 else 4)]) ∧ Own B w0 w' H := by
 have hmem := hG.mem
 refine calls_of_run (F := [(0, _), (1, _)]) Try.func62 rfl Try.ntmps62 rfl rfl <| run_seq <| run_region <| rl_ow rfl (ow_alloc _ rfl rfl rfl zero_127 rfl hO) ?_
 rintro _ w1 ⟨b4, rfl, hO2, hs3⟩
 refine rl_v rfl rfl rfl (ov_assign rfl rfl) <| rl_nil <| run_seq <| run_seq <| run_region <| rl_v rfl rfl rfl (ov_move rfl rfl) <| rl_v rfl rfl rfl (ov_ptrnil rfl Try.underlying30 rfl) <| rl_nil <| run_cond_f rfl <| run_skip <| run_seq <| run_seq <| run_region <| rl_v rfl rfl rfl (ov_move rfl rfl) <| rl_v rfl rfl rfl (ov_move rfl rfl) ?_
 refine rl_call callable_110 rfl rfl rfl rfl rfl rfl (isMember_any hb B (k + 1) (X.r K) i _ w0 w1 hO2 hk) (fun e4 w5 hp6 => ?_)
 obtain ⟨rfl, hw⟩ := hp6
 refine ⟨_, rfl, ?_⟩
 subst hw
 refine rl_v rfl rfl rfl (ov_not rfl rfl) <| rl_nil ?_
 first | refine run_cond_dec rfl (fun c => ?_) (fun c => ?_) | refine run_cond rfl (fun c => ?_) (fun c => ?_)
 ·have hi : ¬ X.is i := ndt c
  refine run_seq <| run_region <| rl_v rfl rfl rfl (ov_buildL rfl lay_127 rfl (us := [_, _, _, _, _, _, _, _, _, _, _, _, _, _, _]) rfl) <| rl_ow rfl (ow_storeW rfl rfl (by kernel_rfl) hO2 0 rfl rfl (by rfl) rfl (by rfl)) ?_
  rintro _ w7 ⟨rfl, hO8, hs9⟩
  refine rl_v rfl rfl rfl (ov_assign rfl rfl) <| rl_nil <| run_ret Try.func62 (resW2 Try.results62 rfl rfl Try.underlying127 rfl (by kernel_rfl) hO8 0 rfl) ?_
  exact ⟨by unfold HM.kno; rw [if_neg hi, if_neg hi]; rfl, hO8.tail⟩
 ·have hi : X.is i := ndf c
  have hi2 : 1 ≤ i ∧ i ≤ X.mem := hi
  refine run_skip <| run_seq <| run_region <| rl_v rfl rfl rfl (ov_move rfl rfl) <| rl_v rfl rfl rfl (ov_nil rfl rfl) <| rl_v rfl rfl rfl (ov_fieldS rfl Try.underlying124 rfl (fo := 17) rfl (by kernel_rfl) rfl) ?_
  refine rl_v rfl rfl rfl (ov_load rfl Try.underlying120 rfl rfl (by exact hO2.cellL (k + 1) hk (off := 17) rfl)) ?_
  refine rl_v rfl rfl rfl (ov_move rfl rfl) <| rl_v rfl rfl rfl (ov_sub rfl rfl rfl (by omega)) ?_
  refine rl_v rfl rfl rfl (ov_index rfl Try.underlying120 (by kernel_rfl) (s := 15) rfl rfl ⟨by omega, show i - 1 < (X.mem : Int) by omega⟩ rfl) ?_
  refine rl_v rfl rfl rfl (ov_loadE rfl Try.underlying127 rfl (by kernel_rfl) rfl ⟨by omega, by omega⟩ rfl (hK.reads hO2 (kb + 1) hkb)) ?_
  refine rl_ow rfl (ow_storeW rfl rfl (by kernel_rfl) hO2 0 rfl rfl (by rfl) rfl (by rfl)) ?_
  rintro _ w10 ⟨rfl, hO11, hs12⟩
  refine rl_v rfl rfl rfl (ov_assign rfl rfl) <| rl_nil <| run_ret Try.func62 (resW2 Try.results62 rfl rfl Try.underlying127 rfl (by kernel_rfl) hO11 0 rfl) ?_
  exact ⟨by unfold HM.kno; rw [if_pos hi, if_pos hi]; rfl, hO11.tail⟩
theorem mny_act {X : HM} {i a : Int} (h : X.act i ≠ 0) : X.mny i a = X.act i := if_pos h
theorem mny_ok {X : HM} {i a : Int} (h : X.act i = 0) : X.mny i a = if 1 ≤ a ∧ a ≤ 1000000000000 then 0 else 1 := if_neg (by omega)
def HM.deposit (X : HM) (i a : Int) : HM := if X.mny i a = 0 then X.setA i { X.acct i with cash := (X.acct i).cash + a } else X
theorem deposit_any (hb B : Nat) (X : HM) (i a : Int) (Pl R : List (Option Blk)) (w0 w : World) (h : HAt B w0 w hb X Pl R) (hG : HG X) :
  Calls Try.prog 23 #[ptr hb, iv i, iv a] w fun e w' => e = .returned (iv (X.mny i a)) ∧ HAt B w0 w' hb (X.deposit i a) Pl R := by
 obtain ⟨K, N, hO, hK, hPl⟩ := h
 refine calls_of_run (F := [(0, _), (1, _), (2, _)]) Try.func23 rfl Try.ntmps23 rfl rfl <| run_seq <| run_region <| rl_v rfl rfl rfl (ov_assign rfl rfl) <| rl_nil <| run_seq <| run_region <| rl_v rfl rfl rfl (ov_move rfl rfl) <| rl_v rfl rfl rfl (ov_move rfl rfl) ?_
 refine rl_call callable_61 rfl rfl rfl rfl rfl rfl (active_any hb B X K i N _ w0 w hO 0 1 rfl rfl hK hG) (fun e1 w2 hp3 => ?_)
 obtain ⟨pv, rfl, hpv, hw⟩ := hp3
 refine ⟨_, rfl, ?_⟩
 subst hw
 refine rl_v rfl rfl rfl (ov_move rfl rfl) <| rl_v rfl rfl rfl (ov_extract rfl rfl (by rfl)) ?_
 refine rl_v rfl rfl rfl (ov_extract rfl rfl (by rfl)) ?_
 refine rl_v rfl rfl rfl (ov_assign rfl rfl) <| rl_v rfl rfl rfl (ov_assign rfl rfl) <| rl_nil <| run_seq <| run_seq <| run_region <| rl_v rfl rfl rfl (ov_move rfl rfl) <| rl_v rfl rfl rfl (ov_neq rfl rfl rfl) <| rl_nil ?_
 first | refine run_cond_dec rfl (fun ha => ?_) (fun ha => ?_) | refine run_cond rfl (fun ha => ?_) (fun ha => ?_)
 ·have em : X.mny i a = X.act i := mny_act ha
  have ex : X.deposit i a = X := if_neg (by rw [em]; exact ha)
  refine run_seq <| run_region <| rl_v rfl rfl rfl (ov_move rfl rfl) <| rl_v rfl rfl rfl (ov_assign rfl rfl) <| rl_nil <| run_ret Try.func23 (res1 Try.results23 rfl) ?_
  exact ⟨by rw [em]; rfl, by rw [ex]; exact ⟨K, N, hO, hK, hPl⟩⟩
 ·have ha0 : X.act i = 0 := by omega
  obtain ⟨rfl, hi, ho⟩ := hpv ha0
  have hi2 : 1 ≤ i ∧ i ≤ X.mem := hi
  have hmem := hG.mem
  have hca : (X.acct i).cash.natAbs ≤ 10000000000000000 := hG.cash (i - 1) (by omega) (by omega)
  have em := mny_ok (a := a) ha0
  refine run_skip <| run_seq <| run_seq <| run_region <| rl_v rfl rfl rfl (ov_move rfl rfl) ?_
  refine rl_call callable_54 rfl rfl rfl rfl rfl rfl (in_any a 1 1000000000000 w2) (fun e4 w5 hp6 => ?_)
  obtain ⟨rfl, hw⟩ := hp6
  refine ⟨_, rfl, ?_⟩
  subst hw
  refine rl_v rfl rfl rfl (ov_not rfl rfl) <| rl_nil ?_
  first | refine run_cond_dec rfl (fun c => ?_) (fun c => ?_) | refine run_cond rfl (fun c => ?_) (fun c => ?_)
  ·have c2 := ndt c
   have em2 : X.mny i a = 1 := em.trans (if_neg c2)
   have ex : X.deposit i a = X := if_neg (by rw [em2]; decide)
   refine run_seq <| run_region <| rl_v rfl rfl rfl (ov_assign rfl rfl) <| rl_nil <| run_ret Try.func23 (res1 Try.results23 rfl) ?_
   exact ⟨by rw [em2], by rw [ex]; exact ⟨K, N, hO, hK, hPl⟩⟩
  ·have c2 := ndf c
   have em2 : X.mny i a = 0 := em.trans (if_pos c2)
   have ex : X.deposit i a = X.setA i { X.acct i with cash := (X.acct i).cash + a } := if_pos em2
   refine run_skip <| run_seq <| run_region <| rl_v rfl rfl rfl (ov_move rfl rfl) <| rl_v rfl rfl rfl (ov_nil rfl rfl) <| rl_v rfl rfl rfl (ov_fieldS rfl Try.underlying127 rfl (fo := 0) rfl (by kernel_rfl) rfl) ?_
   refine rl_v rfl rfl rfl (ov_load rfl Try.underlying2 rfl rfl (by exact (show _ = some (iv (X.acct i).cash) from hK.reads hO 1 rfl (i - 1) (by omega) (by omega) 0 (by decide)))) ?_
   refine rl_v rfl rfl rfl (ov_move rfl rfl) <| rl_v rfl rfl rfl (ov_add rfl rfl rfl (by omega)) ?_
   refine rl_v rfl rfl rfl (ov_nil rfl rfl) <| rl_v rfl rfl rfl (ov_fieldS rfl Try.underlying127 rfl (fo := 0) rfl (by kernel_rfl) rfl) ?_
   refine rl_ow rfl (ow_storeR rfl rfl (by kernel_rfl) hO 1 hK.acc rfl (fun _ => rfl) rfl ⟨by omega, by omega⟩ rfl rfl rfl rfl) ?_
   rintro _ w7 ⟨c2, rfl, hO8, hR2, hs9⟩
   refine rl_nil <| run_seq <| run_region <| rl_v rfl rfl rfl (ov_assign rfl rfl) <| rl_nil <| run_ret Try.func23 (res1 Try.results23 rfl) ?_
   exact ⟨by rw [em2], by rw [ex]; exact ⟨{ K with blk := c2 }, N, hO8, hK.setA hR2 rfl, hPl⟩⟩
def HM.spent (X : HM) (i a : Int) : HM := if X.spd i a = 0 then X.setA i { X.acct i with cash := (X.acct i).cash - a } else X
theorem spend_any (hb B : Nat) (X : HM) (i a : Int) (Pl R : List (Option Blk)) (w0 w : World) (h : HAt B w0 w hb X Pl R) (hG : HG X) :
  Calls Try.prog 66 #[ptr hb, iv i, iv a] w fun e w' => ∃ pv K N, e = .returned (.tuple #[pv, iv (X.spd i a)]) ∧ (X.spd i a = 0 → pv = .pointer (some ⟨K.ab, 0 + (i - 1).toNat * 15, none⟩) ∧ X.is i ∧ 1 ≤ a ∧ a ≤ 1000000000000 ∧ a ≤ (X.acct i).cash) ∧
   Own B w0 w' (houB hb ((X.spent i a).r K) :: K.blk :: (N ++ R)) ∧ HOk (X.spent i a) K N ∧ Pl.Sublist N := by
 obtain ⟨K, N, hO, hK, hPl⟩ := h
 refine calls_of_run (F := [(0, _), (1, _), (2, _)]) Try.func66 rfl Try.ntmps66 rfl rfl <| run_seq <| run_region <| rl_v rfl rfl rfl (ov_assign rfl rfl) <| rl_v rfl rfl rfl (ov_assign rfl rfl) <| rl_nil <| run_seq <| run_region <| rl_v rfl rfl rfl (ov_move rfl rfl) <| rl_v rfl rfl rfl (ov_move rfl rfl) ?_
 refine rl_call callable_61 rfl rfl rfl rfl rfl rfl (active_any hb B X K i N _ w0 w hO 0 1 rfl rfl hK hG) (fun e1 w2 hp3 => ?_)
 obtain ⟨pv, rfl, hpv, hw⟩ := hp3
 refine ⟨_, rfl, ?_⟩
 subst hw
 refine rl_v rfl rfl rfl (ov_move rfl rfl) <| rl_v rfl rfl rfl (ov_extract rfl rfl (by rfl)) ?_
 refine rl_v rfl rfl rfl (ov_extract rfl rfl (by rfl)) ?_
 refine rl_v rfl rfl rfl (ov_assign rfl rfl) <| rl_v rfl rfl rfl (ov_assign rfl rfl) <| rl_nil <| run_seq <| run_seq <| run_region <| rl_v rfl rfl rfl (ov_move rfl rfl) <| rl_v rfl rfl rfl (ov_neq rfl rfl rfl) <| rl_nil ?_
 first | refine run_cond_dec rfl (fun ha => ?_) (fun ha => ?_) | refine run_cond rfl (fun ha => ?_) (fun ha => ?_)
 ·have em : X.spd i a = X.act i := (if_pos (by rw [mny_act ha]; exact ha)).trans (mny_act ha)
  have ex : X.spent i a = X := if_neg (by rw [em]; exact ha)
  refine run_seq <| run_region <| rl_v rfl rfl rfl (ov_move rfl rfl) <| rl_v rfl rfl rfl (ov_assign rfl rfl) <| rl_v rfl rfl rfl (ov_assign rfl rfl) <| rl_nil <| run_ret Try.func66 (res2 Try.results66 rfl rfl) ?_
  exact ⟨_, K, N, by rw [em]; rfl, fun h => absurd (em.symm.trans h) ha, by rw [ex]; exact hO, by rw [ex]; exact hK, hPl⟩
 ·have ha0 : X.act i = 0 := by omega
  obtain ⟨rfl, hi, ho⟩ := hpv ha0
  have hi2 : 1 ≤ i ∧ i ≤ X.mem := hi
  have hmem := hG.mem
  have hca : (X.acct i).cash.natAbs ≤ 10000000000000000 := hG.cash (i - 1) (by omega) (by omega)
  have em := mny_ok (a := a) ha0
  refine run_skip <| run_seq <| run_seq <| run_region <| rl_v rfl rfl rfl (ov_move rfl rfl) ?_
  refine rl_call callable_54 rfl rfl rfl rfl rfl rfl (in_any a 1 1000000000000 w2) (fun e4 w5 hp6 => ?_)
  obtain ⟨rfl, hw⟩ := hp6
  refine ⟨_, rfl, ?_⟩
  subst hw
  refine rl_v rfl rfl rfl (ov_not rfl rfl) <| rl_nil ?_
  first | refine run_cond_dec rfl (fun c => ?_) (fun c => ?_) | refine run_cond rfl (fun c => ?_) (fun c => ?_)
  ·have c2 := ndt c
   have em1 : X.mny i a = 1 := em.trans (if_neg c2)
   have em2 : X.spd i a = 1 := (if_pos (by rw [em1]; decide)).trans em1
   have ex : X.spent i a = X := if_neg (by rw [em2]; decide)
   refine run_seq <| run_region <| rl_v rfl rfl rfl (ov_assign rfl rfl) <| rl_v rfl rfl rfl (ov_assign rfl rfl) <| rl_nil <| run_ret Try.func66 (res2 Try.results66 rfl rfl) ?_
   exact ⟨_, K, N, by rw [em2], fun h => absurd (em2.symm.trans h) (by decide), by rw [ex]; exact hO, by rw [ex]; exact hK, hPl⟩
  ·have c2 := ndf c
   have em1 : X.mny i a = 0 := em.trans (if_pos c2)
   have es : X.spd i a = if (X.acct i).cash < a then 9 else if X.need (X.acct i) ≤ (X.acct i).cash - a then 0 else 90 := if_neg (by rw [em1]; decide)
   refine run_skip <| run_seq <| run_seq <| run_region <| rl_v rfl rfl rfl (ov_move rfl rfl) <| rl_v rfl rfl rfl (ov_nil rfl rfl) <| rl_v rfl rfl rfl (ov_fieldS rfl Try.underlying127 rfl (fo := 0) rfl (by kernel_rfl) rfl) ?_
   refine rl_v rfl rfl rfl (ov_load rfl Try.underlying2 rfl rfl (by exact (show _ = some (iv (X.acct i).cash) from hK.reads hO 1 rfl (i - 1) (by omega) (by omega) 0 (by decide)))) ?_
   refine rl_v rfl rfl rfl (ov_move rfl rfl) <| rl_v rfl rfl rfl (ov_lss rfl rfl rfl) <| rl_nil ?_
   first | refine run_cond_dec rfl (fun d => ?_) (fun d => ?_) | refine run_cond rfl (fun d => ?_) (fun d => ?_)
   ·have em2 : X.spd i a = 9 := es.trans (if_pos d)
    have ex : X.spent i a = X := if_neg (by rw [em2]; decide)
    refine run_seq <| run_region <| rl_v rfl rfl rfl (ov_assign rfl rfl) <| rl_v rfl rfl rfl (ov_assign rfl rfl) <| rl_nil <| run_ret Try.func66 (res2 Try.results66 rfl rfl) ?_
    exact ⟨_, K, N, by rw [em2], fun h => absurd (em2.symm.trans h) (by decide), by rw [ex]; exact hO, by rw [ex]; exact hK, hPl⟩
   ·refine run_skip <| run_seq <| run_region <| rl_v rfl rfl rfl (ov_move rfl rfl) <| rl_v rfl rfl rfl (ov_nil rfl rfl) <| rl_v rfl rfl rfl (ov_loadE rfl Try.underlying127 rfl (by kernel_rfl) rfl ⟨by omega, by omega⟩ rfl (hK.reads hO 1 rfl)) ?_
    refine rl_ow rfl (ow_alloc _ rfl rfl rfl zero_127 rfl hO) ?_
    rintro _ w7 ⟨b10, rfl, hO8, hs9⟩
    refine rl_ow rfl (ow_storeW rfl rfl (by kernel_rfl) hO8 0 rfl rfl (by rfl) rfl (by rfl)) ?_
    rintro _ w10 ⟨rfl, hO11, hs12⟩
    refine rl_nil <| run_seq <| run_region <| rl_v rfl rfl rfl (ov_fieldS rfl Try.underlying127 rfl (fo := 0) rfl (by kernel_rfl) rfl) ?_
    refine rl_v rfl rfl rfl (ov_load rfl Try.underlying2 rfl rfl (by exact (show _ = some (iv (X.acct i).cash) from hO11.cellL 0 rfl (off := 0) rfl))) ?_
    refine rl_v rfl rfl rfl (ov_move rfl rfl) <| rl_v rfl rfl rfl (ov_sub rfl rfl rfl (by omega)) ?_
    refine rl_v rfl rfl rfl (ov_fieldS rfl Try.underlying127 rfl (fo := 0) rfl (by kernel_rfl) rfl) ?_
    refine rl_ow rfl (ow_storeL rfl rfl (by kernel_rfl) hO11 0 rfl rfl rfl rfl rfl) ?_
    rintro _ w13 ⟨rfl, hO14, hs15⟩
    have hO2 : Own B w0 w13 (some (lch b10 127 (accL { X.acct i with cash := (X.acct i).cash - a })) :: houB hb (X.r K) :: K.blk :: (N ++ R)) := hO14
    refine rl_nil <| run_seq <| run_seq <| run_region <| rl_v rfl rfl rfl (ov_move rfl rfl) <| rl_v rfl rfl rfl (ov_loadW rfl Try.underlying127 rfl (by kernel_rfl) rfl hO2 0 rfl) ?_
    refine rl_call callable_73 rfl rfl rfl rfl rfl rfl (covered_any hb B 1 (X.r K) X.mv { X.acct i with cash := (X.acct i).cash - a } _ w0 w13 hO2 rfl (hK.mv.sub (.cons _ (.cons _ (.cons _ (List.sublist_append_left _ _))))) (hG.bd K) ((hG.pos (i - 1) (by omega) (by omega)).mono (by decide)) hG.pbd) (fun e16 w17 hp18 => ?_)
    obtain ⟨rfl, hO3⟩ := hp18
    refine ⟨_, rfl, ?_⟩
    refine rl_v rfl rfl rfl (ov_not rfl rfl) <| rl_nil ?_
    first | refine run_cond_dec rfl (fun f => ?_) (fun f => ?_) | refine run_cond rfl (fun f => ?_) (fun f => ?_)
    ·have f2 : ¬ X.need (X.acct i) ≤ (X.acct i).cash - a := ndt f
     have em2 : X.spd i a = 90 := es.trans ((if_neg d).trans (if_neg f2))
     have ex : X.spent i a = X := if_neg (by rw [em2]; decide)
     refine run_seq <| run_region <| rl_v rfl rfl rfl (ov_assign rfl rfl) <| rl_v rfl rfl rfl (ov_assign rfl rfl) <| rl_nil <| run_ret Try.func66 (res2 Try.results66 rfl rfl) ?_
     exact ⟨_, K, N, by rw [em2], fun h => absurd (em2.symm.trans h) (by decide), by rw [ex]; exact hO3.tail, by rw [ex]; exact hK, hPl⟩
    ·have f2 : X.need (X.acct i) ≤ (X.acct i).cash - a := ndf f
     have em2 : X.spd i a = 0 := es.trans ((if_neg d).trans (if_pos f2))
     have ex : X.spent i a = X.setA i { X.acct i with cash := (X.acct i).cash - a } := if_pos em2
     refine run_skip <| run_seq <| run_region <| rl_v rfl rfl rfl (ov_move rfl rfl) <| rl_v rfl rfl rfl (ov_loadW rfl Try.underlying127 rfl (by kernel_rfl) rfl hO3 0 rfl) ?_
     refine rl_v rfl rfl rfl (ov_nil rfl rfl) <| rl_ow rfl (ow_storeS rfl rfl (by kernel_rfl) hO3 hK.acc (kk := 2) rfl (fun _ => rfl) rfl ⟨by omega, show i - 1 < (X.mem : Int) by omega⟩ accL_len rfl (by kernel_rfl)) ?_
     rintro _ w19 ⟨c9, rfl, hO20, hR2, hs21⟩
     refine rl_nil <| run_seq <| run_region <| rl_v rfl rfl rfl (ov_move rfl rfl) <| rl_v rfl rfl rfl (ov_assign rfl rfl) <| rl_v rfl rfl rfl (ov_assign rfl rfl) <| rl_nil <| run_ret Try.func66 (res2 Try.results66 rfl rfl) ?_
     exact ⟨_, { K with blk := c9 }, N, by rw [em2]; rfl, fun _ => ⟨rfl, hi, c2.1, c2.2, by omega⟩, by rw [ex]; exact hO20.tail, by rw [ex]; exact hK.setA hR2 rfl, hPl⟩
def HM.contrib (X : HM) (i a : Int) : HM := if X.spd i a = 0 then X.setA i { X.acct i with cash := (X.acct i).cash - a, fund := (X.acct i).fund + a } else X
theorem setA_acct (X : HM) (i : Int) (a : HA) : (X.setA i a).acct i = a := upd_same _ _ _
theorem setA_setA (X : HM) (i : Int) (a b : HA) : (X.setA i a).setA i b = X.setA i b := by
 unfold HM.setA
 simp only [HM.mk.injEq, true_and, and_true]
 funext j
 unfold upd
 split <;> rfl
theorem contribute_any (hb B : Nat) (X : HM) (i a : Int) (Pl R : List (Option Blk)) (w0 w : World) (h : HAt B w0 w hb X Pl R) (hG : HG X) :
  Calls Try.prog 27 #[ptr hb, iv i, iv a] w fun e w' => e = .returned (iv (X.spd i a)) ∧ HAt B w0 w' hb (X.contrib i a) Pl R := by
 refine calls_of_run (F := [(0, _), (1, _), (2, _)]) Try.func27 rfl Try.ntmps27 rfl rfl ?_
 have hO0 := Own.init w
 refine run_seq <| run_region <| rl_v rfl rfl rfl (ov_assign rfl rfl) <| rl_nil <| run_seq <| run_region <| rl_v rfl rfl rfl (ov_move rfl rfl) <| rl_v rfl rfl rfl (ov_move rfl rfl) <| rl_v rfl rfl rfl (ov_move rfl rfl) ?_
 refine rl_call callable_66 rfl rfl rfl rfl rfl rfl (spend_any hb B X i a Pl R w0 w h hG) (fun e1 w2 hp3 => ?_)
 obtain ⟨pv, K, N, rfl, hpv, hO, hK, hPl⟩ := hp3
 refine ⟨_, rfl, ?_⟩
 refine rl_v rfl rfl rfl (ov_move rfl rfl) <| rl_v rfl rfl rfl (ov_extract rfl rfl (by rfl)) ?_
 refine rl_v rfl rfl rfl (ov_extract rfl rfl (by rfl)) ?_
 refine rl_v rfl rfl rfl (ov_assign rfl rfl) <| rl_v rfl rfl rfl (ov_assign rfl rfl) <| rl_nil <| run_seq <| run_seq <| run_region <| rl_v rfl rfl rfl (ov_move rfl rfl) <| rl_v rfl rfl rfl (ov_eql rfl rfl rfl) <| rl_nil ?_
 first | refine run_cond_dec rfl (fun c => ?_) (fun c => ?_) | refine run_cond rfl (fun c => ?_) (fun c => ?_)
 ·obtain ⟨rfl, hi, a0, a1, ac⟩ := hpv c
  have ex : X.spent i a = X.setA i { X.acct i with cash := (X.acct i).cash - a } := if_pos c
  have ey : X.contrib i a = X.setA i { X.acct i with cash := (X.acct i).cash - a, fund := (X.acct i).fund + a } := if_pos c
  have hi2 : 1 ≤ i ∧ i ≤ X.mem := hi
  have hfu : 0 ≤ (X.acct i).fund ∧ (X.acct i).fund ≤ 10000000000000000 := hG.fund (i - 1) (by omega) (by omega)
  rw [ex] at hO hK
  have hac := setA_acct X i { X.acct i with cash := (X.acct i).cash - a }
  refine run_region <| rl_v rfl rfl rfl (ov_move rfl rfl) <| rl_v rfl rfl rfl (ov_nil rfl rfl) <| rl_v rfl rfl rfl (ov_fieldS rfl Try.underlying127 rfl (fo := 1) rfl (by kernel_rfl) rfl) ?_
  refine rl_v rfl rfl rfl (ov_load rfl Try.underlying2 rfl rfl (by exact (show _ = some (iv (X.acct i).fund) from (hK.reads hO 1 rfl (i - 1) (by omega) (by show i - 1 < (X.mem : Int); omega) 1 (by decide)).trans (by rw [show (X.setA i { X.acct i with cash := (X.acct i).cash - a }).ac (i - 1) = _ from hac]; rfl)))) ?_
  refine rl_v rfl rfl rfl (ov_move rfl rfl) <| rl_v rfl rfl rfl (ov_add rfl rfl rfl (by omega)) ?_
  refine rl_v rfl rfl rfl (ov_nil rfl rfl) <| rl_v rfl rfl rfl (ov_fieldS rfl Try.underlying127 rfl (fo := 1) rfl (by kernel_rfl) rfl) ?_
  refine rl_ow rfl (ow_storeR rfl rfl (by kernel_rfl) hO 1 hK.acc rfl (fun _ => rfl) rfl ⟨by omega, show i - 1 < (X.mem : Int) by omega⟩ rfl rfl rfl rfl) ?_
  rintro _ w4 ⟨c9, rfl, hO5, hR2, hs6⟩
  have hKf := hK.setA (a := { X.acct i with cash := (X.acct i).cash - a, fund := (X.acct i).fund + a }) hR2 (by rw [show (X.setA i { X.acct i with cash := (X.acct i).cash - a }).ac (i - 1) = _ from hac]; rfl)
  rw [setA_setA, ← ey] at hKf
  refine rl_nil <| run_seq <| run_region <| rl_v rfl rfl rfl (ov_move rfl rfl) <| rl_v rfl rfl rfl (ov_assign rfl rfl) <| rl_nil <| run_ret Try.func27 (res1 Try.results27 rfl) ?_
  exact ⟨rfl, { K with blk := c9 }, N, by rw [ey]; exact hO5, hKf, hPl⟩
 ·have ex : X.spent i a = X := if_neg c
  have ey : X.contrib i a = X := if_neg c
  rw [ex, ← ey] at hO hK
  refine run_skip <| run_seq <| run_region <| rl_v rfl rfl rfl (ov_move rfl rfl) <| rl_v rfl rfl rfl (ov_assign rfl rfl) <| rl_nil <| run_ret Try.func27 (res1 Try.results27 rfl) ?_
  exact ⟨rfl, K, N, hO, hK, hPl⟩
end Go.Proofs.Ytfbbagnpdfafjaa
