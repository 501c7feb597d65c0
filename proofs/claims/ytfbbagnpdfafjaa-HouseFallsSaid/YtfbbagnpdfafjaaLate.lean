import Derived.Test.YtfbbagnpdfafjaaHaF
import Derived.Test.YtfbbagnpdfafjaaTab
set_option maxRecDepth 100000
namespace Go.Proofs.Ytfbbagnpdfafjaa
open Go.RowKit Go.Proofs
def Ct.z : Ct := ⟨0, 0, 0, 0, 0⟩
def HM.no4 (X : HM) (c : Ct) : Prop := ¬ X.is c.b ∨ ¬ X.is c.s ∨ c.m < 0 ∨ X.mo ≤ c.m
def Ct.bad (c : Ct) : Prop := c.b = c.s ∨ ¬ (1 ≤ c.q ∧ c.q ≤ 1000000) ∨ ¬ (1 ≤ c.p ∧ c.p ≤ 1000000)
instance (X : HM) (c : Ct) : Decidable (X.no4 c) := by unfold HM.no4; exact inferInstance
instance (c : Ct) : Decidable c.bad := by unfold Ct.bad; exact inferInstance
def HM.par (X : HM) (c : Ct) : Int := if X.no4 c then 4 else if c.bad then 1 else if (X.acct c.b).out = true ∨ (X.acct c.s).out = true then 5 else 0
structure Par (X : HM) (c : Ct) : Prop where
 b : 1 ≤ c.b ∧ c.b ≤ X.mem
 s : 1 ≤ c.s ∧ c.s ≤ X.mem
 m : 0 ≤ c.m ∧ c.m < X.mo
 ne : c.b ≠ c.s
 q : 1 ≤ c.q ∧ c.q ≤ 1000000
 p : 1 ≤ c.p ∧ c.p ≤ 1000000
 bo : (X.acct c.b).out = false
 so : (X.acct c.s).out = false
theorem parties_any (hb B : Nat) (X : HM) (K : HK) (c : Ct) (N H : List (Option Blk)) (w0 w : World) (hO : Own B w0 w H) (k kb : Nat) (hk : H[k]? = some (houB hb (X.r K))) (hkb : H[kb]? = some K.blk) (hK : HOk X K N) (hG : HG X) :
  Calls Try.prog 64 #[ptr hb, .agg (ctL c).toArray] w fun e w' => ∃ p1 p2, e = .returned (.tuple #[p1, p2, iv (X.par c)]) ∧ (X.par c = 0 → p1 = .pointer (some ⟨K.ab, 0 + (c.b - 1).toNat * 15, none⟩) ∧ p2 = .pointer (some ⟨K.ab, 0 + (c.s - 1).toNat * 15, none⟩) ∧ Par X c) ∧ Own B w0 w' H := by
 have hmem := hG.mem
 have e4 : X.no4 c → X.par c = 4 := fun h => if_pos h
 refine calls_of_run (F := [(0, _), (1, _)]) Try.func64 rfl Try.ntmps64 rfl rfl <| run_seq <| run_region <| rl_ow rfl (ow_box _ rfl rfl rfl rfl rfl hO) ?_
 rintro _ w1 ⟨b3, rfl, hO2, hs3⟩
 refine rl_v rfl rfl rfl (ov_assign rfl rfl) <| rl_v rfl rfl rfl (ov_assign rfl rfl) <| rl_v rfl rfl rfl (ov_assign rfl rfl) <| rl_nil <| run_seq <| run_seq <| run_region <| rl_v rfl rfl rfl (ov_move rfl rfl) <| rl_v rfl rfl rfl (ov_ptrnil rfl Try.underlying30 rfl) <| rl_nil <| run_cond_f rfl <| run_skip <| run_seq <| run_seq <| run_class (Cl B w0 (some (lch b3 45 (ctL c)) :: H)) (⟨hO2.drew⟩) mixed (by kernel_rfl) ?_
 refine rk_v rfl rfl rfl (fun wq hQ => ov_move rfl rfl) ?_
 refine rk_v rfl rfl rfl (fun wq hQ => ov_fieldS rfl Try.underlying45 rfl (fo := 0) rfl (by kernel_rfl) rfl) ?_
 refine rk_v rfl rfl rfl (fun wq hQ => ov_load rfl Try.underlying3 rfl rfl (by exact (hQ.own).cellL 0 rfl (off := 0) rfl)) ?_
 refine rk_call callable_110 rfl rfl rfl rfl rfl rfl (fun wq hQ => (isMember_any hb B (k + 1) (X.r K) c.b _ w0 wq (hQ.own) hk).mono fun _ _ h => ⟨h.1, h.2 ▸ hQ⟩) ?_
 refine rk_v rfl rfl rfl (fun wq hQ => ov_not rfl rfl) ?_
 refine rk_v rfl rfl rfl (fun wq hQ => ov_move rfl rfl) ?_
 first | refine rk_split_dec 14 rfl (fun g1 => ?_) (fun g1 => ?_) | refine rk_split 14 rfl (fun g1 => ?_) (fun g1 => ?_)
 ·refine rk_gskip rfl rfl rfl rfl rfl rfl <| rk_gskip rfl rfl rfl rfl rfl rfl <| rk_gskip rfl rfl rfl rfl rfl rfl <| rk_gskip rfl rfl rfl rfl rfl rfl <| rk_gskip rfl rfl rfl rfl rfl rfl <| rk_v rfl rfl rfl (fun wq hQ => ov_pick_t rfl rfl rfl) ?_
  refine rk_v rfl rfl rfl (fun wq hQ => ov_move rfl rfl) ?_
  refine rk_gskip rfl rfl rfl rfl rfl rfl <| rk_gskip rfl rfl rfl rfl rfl rfl <| rk_gskip rfl rfl rfl rfl rfl rfl <| rk_v rfl rfl rfl (fun wq hQ => ov_pick_t rfl rfl rfl) ?_
  refine rk_v rfl rfl rfl (fun wq hQ => ov_move rfl rfl) ?_
  refine rk_gskip rfl rfl rfl rfl rfl rfl <| rk_gskip rfl rfl rfl rfl rfl rfl <| rk_gskip rfl rfl rfl rfl rfl rfl <| rk_gskip rfl rfl rfl rfl rfl rfl <| rk_gskip rfl rfl rfl rfl rfl rfl <| rk_gskip rfl rfl rfl rfl rfl rfl <| rk_gskip rfl rfl rfl rfl rfl rfl <| rk_v rfl rfl rfl (fun wq hQ => ov_pick_t rfl rfl rfl) ?_
  refine rk_nil (fun w8 hQ => ?_)
  refine run_cond_t rfl <| run_seq <| run_region <| rl_v rfl rfl rfl (ov_assign rfl rfl) <| rl_v rfl rfl rfl (ov_assign rfl rfl) <| rl_v rfl rfl rfl (ov_assign rfl rfl) <| rl_nil <| run_ret Try.func64 (res3 Try.results64 rfl rfl rfl) ?_
  exact ⟨_, _, by rw [e4 (.inl (ndt g1))], fun h => absurd ((e4 (.inl (ndt g1))).symm.trans h) (by decide), (hQ.own).tail⟩
 ·refine rk_gv rfl rfl rfl rfl rfl (fun wq hQ => ov_move rfl rfl) ?_
  refine rk_gv rfl rfl rfl rfl rfl (fun wq hQ => ov_fieldS rfl Try.underlying45 rfl (fo := 1) rfl (by kernel_rfl) rfl) ?_
  refine rk_gv rfl rfl rfl rfl rfl (fun wq hQ => ov_load rfl Try.underlying3 rfl rfl (by exact (hQ.own).cellL 0 rfl (off := 1) rfl)) ?_
  refine rk_gcall callable_110 rfl rfl rfl rfl rfl rfl rfl rfl (fun wq hQ => (isMember_any hb B (k + 1) (X.r K) c.s _ w0 wq (hQ.own) hk).mono fun _ _ h => ⟨h.1, h.2 ▸ hQ⟩) ?_
  refine rk_gv rfl rfl rfl rfl rfl (fun wq hQ => ov_not rfl rfl) ?_
  refine rk_v rfl rfl rfl (fun wq hQ => ov_pick_f rfl rfl rfl) ?_
  refine rk_v rfl rfl rfl (fun wq hQ => ov_move rfl rfl) ?_
  first | refine rk_split_dec 21 rfl (fun g2 => ?_) (fun g2 => ?_) | refine rk_split 21 rfl (fun g2 => ?_) (fun g2 => ?_)
  ·refine rk_gskip rfl rfl rfl rfl rfl rfl <| rk_gskip rfl rfl rfl rfl rfl rfl <| rk_gskip rfl rfl rfl rfl rfl rfl <| rk_v rfl rfl rfl (fun wq hQ => ov_pick_t rfl rfl rfl) ?_
   refine rk_v rfl rfl rfl (fun wq hQ => ov_move rfl rfl) ?_
   refine rk_gskip rfl rfl rfl rfl rfl rfl <| rk_gskip rfl rfl rfl rfl rfl rfl <| rk_gskip rfl rfl rfl rfl rfl rfl <| rk_gskip rfl rfl rfl rfl rfl rfl <| rk_gskip rfl rfl rfl rfl rfl rfl <| rk_gskip rfl rfl rfl rfl rfl rfl <| rk_gskip rfl rfl rfl rfl rfl rfl <| rk_v rfl rfl rfl (fun wq hQ => ov_pick_t rfl rfl rfl) ?_
   refine rk_nil (fun w13 hQ => ?_)
   refine run_cond_t rfl <| run_seq <| run_region <| rl_v rfl rfl rfl (ov_assign rfl rfl) <| rl_v rfl rfl rfl (ov_assign rfl rfl) <| rl_v rfl rfl rfl (ov_assign rfl rfl) <| rl_nil <| run_ret Try.func64 (res3 Try.results64 rfl rfl rfl) ?_
   exact ⟨_, _, by rw [e4 (.inr (.inl (ndt g2)))], fun h => absurd ((e4 (.inr (.inl (ndt g2)))).symm.trans h) (by decide), (hQ.own).tail⟩
  ·refine rk_gv rfl rfl rfl rfl rfl (fun wq hQ => ov_fieldS rfl Try.underlying45 rfl (fo := 2) rfl (by kernel_rfl) rfl) ?_
   refine rk_gv rfl rfl rfl rfl rfl (fun wq hQ => ov_load rfl Try.underlying3 rfl rfl (by exact (hQ.own).cellL 0 rfl (off := 2) rfl)) ?_
   refine rk_gv rfl rfl rfl rfl rfl (fun wq hQ => ov_lss rfl rfl rfl) ?_
   refine rk_v rfl rfl rfl (fun wq hQ => ov_pick_f rfl rfl rfl) ?_
   refine rk_v rfl rfl rfl (fun wq hQ => ov_move rfl rfl) ?_
   first | refine rk_split_dec 26 rfl (fun g3 => ?_) (fun g3 => ?_) | refine rk_split 26 rfl (fun g3 => ?_) (fun g3 => ?_)
   ·refine rk_gskip rfl rfl rfl rfl rfl rfl <| rk_gskip rfl rfl rfl rfl rfl rfl <| rk_gskip rfl rfl rfl rfl rfl rfl <| rk_gskip rfl rfl rfl rfl rfl rfl <| rk_gskip rfl rfl rfl rfl rfl rfl <| rk_gskip rfl rfl rfl rfl rfl rfl <| rk_gskip rfl rfl rfl rfl rfl rfl <| rk_v rfl rfl rfl (fun wq hQ => ov_pick_t rfl rfl rfl) ?_
    refine rk_nil (fun w15 hQ => ?_)
    refine run_cond_t rfl <| run_seq <| run_region <| rl_v rfl rfl rfl (ov_assign rfl rfl) <| rl_v rfl rfl rfl (ov_assign rfl rfl) <| rl_v rfl rfl rfl (ov_assign rfl rfl) <| rl_nil <| run_ret Try.func64 (res3 Try.results64 rfl rfl rfl) ?_
    exact ⟨_, _, by rw [e4 (.inr (.inr (.inl g3)))], fun h => absurd ((e4 (.inr (.inr (.inl g3)))).symm.trans h) (by decide), (hQ.own).tail⟩
   ·refine rk_gv rfl rfl rfl rfl rfl (fun wq hQ => ov_fieldS rfl Try.underlying45 rfl (fo := 2) rfl (by kernel_rfl) rfl) ?_
    refine rk_gv rfl rfl rfl rfl rfl (fun wq hQ => ov_load rfl Try.underlying3 rfl rfl (by exact (hQ.own).cellL 0 rfl (off := 2) rfl)) ?_
    refine rk_gv rfl rfl rfl rfl rfl (fun wq hQ => ov_move rfl rfl) ?_
    refine rk_gv rfl rfl rfl rfl rfl (fun wq hQ => ov_nil rfl rfl) ?_
    refine rk_gv rfl rfl rfl rfl rfl (fun wq hQ => ov_fieldS rfl Try.underlying124 rfl (fo := 0) rfl (by kernel_rfl) rfl) ?_
    refine rk_gv rfl rfl rfl rfl rfl (fun wq hQ => ov_load rfl Try.underlying3 rfl rfl (by exact (hQ.own).cellL (k + 1) hk (off := 0) rfl)) ?_
    refine rk_gv rfl rfl rfl rfl rfl (fun wq hQ => ov_geq rfl rfl rfl) ?_
    refine rk_v rfl rfl rfl (fun wq hQ => ov_pick_f rfl rfl rfl) ?_
    refine rk_nil (fun w16 hQ => ?_)
    first | refine run_cond_dec rfl (fun g4 => ?_) (fun g4 => ?_) | refine run_cond rfl (fun g4 => ?_) (fun g4 => ?_)
    ·have g4' : X.mo ≤ c.m := g4
     refine run_seq <| run_region <| rl_v rfl rfl rfl (ov_assign rfl rfl) <| rl_v rfl rfl rfl (ov_assign rfl rfl) <| rl_v rfl rfl rfl (ov_assign rfl rfl) <| rl_nil <| run_ret Try.func64 (res3 Try.results64 rfl rfl rfl) ?_
     exact ⟨_, _, by rw [e4 (.inr (.inr (.inr g4')))], fun h => absurd ((e4 (.inr (.inr (.inr g4')))).symm.trans h) (by decide), (hQ.own).tail⟩
    ·have hb1 : 1 ≤ c.b ∧ c.b ≤ X.mem := ndf g1
     have hs1 : 1 ≤ c.s ∧ c.s ≤ X.mem := ndf g2
     have g4' : ¬ X.mo ≤ c.m := g4
     have n4 : ¬ X.no4 c := fun h => h.elim (fun h => h hb1) fun h => h.elim (fun h => h hs1) fun h => h.elim g3 g4'
     have e1 : c.bad → X.par c = 1 := fun h => (if_neg n4).trans (if_pos h)
     refine run_skip <| run_seq <| run_seq <| run_region <| rl_v rfl rfl rfl (ov_fieldS rfl Try.underlying45 rfl (fo := 0) rfl (by kernel_rfl) rfl) ?_
     refine rl_v rfl rfl rfl (ov_load rfl Try.underlying3 rfl rfl (by exact (hQ.own).cellL 0 rfl (off := 0) rfl)) ?_
     refine rl_v rfl rfl rfl (ov_fieldS rfl Try.underlying45 rfl (fo := 1) rfl (by kernel_rfl) rfl) ?_
     refine rl_v rfl rfl rfl (ov_load rfl Try.underlying3 rfl rfl (by exact (hQ.own).cellL 0 rfl (off := 1) rfl)) ?_
     refine rl_v rfl rfl rfl (ov_eql rfl rfl rfl) <| rl_v rfl rfl rfl (ov_move rfl rfl) ?_
     first | refine rl_split_dec 40 rfl (fun k1 => ?_) (fun k1 => ?_) | refine rl_split 40 rfl (fun k1 => ?_) (fun k1 => ?_)
     ·refine rl_gskip rfl rfl rfl rfl rfl rfl <| rl_gskip rfl rfl rfl rfl rfl rfl <| rl_gskip rfl rfl rfl rfl rfl rfl <| rl_gskip rfl rfl rfl rfl rfl rfl <| rl_v rfl rfl rfl (ov_pick_t rfl rfl rfl) <| rl_v rfl rfl rfl (ov_move rfl rfl) <| rl_gskip rfl rfl rfl rfl rfl rfl <| rl_gskip rfl rfl rfl rfl rfl rfl <| rl_gskip rfl rfl rfl rfl rfl rfl <| rl_gskip rfl rfl rfl rfl rfl rfl <| rl_v rfl rfl rfl (ov_pick_t rfl rfl rfl) <| rl_nil <| run_cond_t rfl <| run_seq <| run_region <| rl_v rfl rfl rfl (ov_assign rfl rfl) <| rl_v rfl rfl rfl (ov_assign rfl rfl) <| rl_v rfl rfl rfl (ov_assign rfl rfl) <| rl_nil <| run_ret Try.func64 (res3 Try.results64 rfl rfl rfl) ?_
      exact ⟨_, _, by rw [e1 (.inl k1)], fun h => absurd ((e1 (.inl k1)).symm.trans h) (by decide), (hQ.own).tail⟩
     ·refine rl_gv rfl rfl rfl rfl rfl (ov_fieldS rfl Try.underlying45 rfl (fo := 3) rfl (by kernel_rfl) rfl) ?_
      refine rl_gv rfl rfl rfl rfl rfl (ov_load rfl Try.underlying2 rfl rfl (by exact (hQ.own).cellL 0 rfl (off := 3) rfl)) ?_
      refine rl_gcall callable_54 rfl rfl rfl rfl rfl rfl rfl rfl (in_any c.q 1 1000000 w16) (fun e18 w19 hp20 => ?_)
      obtain ⟨rfl, hw⟩ := hp20
      refine ⟨_, rfl, ?_⟩
      subst hw
      refine rl_gv rfl rfl rfl rfl rfl (ov_not rfl rfl) <| rl_v rfl rfl rfl (ov_pick_f rfl rfl rfl) <| rl_v rfl rfl rfl (ov_move rfl rfl) ?_
      first | refine rl_split_dec 46 rfl (fun k2 => ?_) (fun k2 => ?_) | refine rl_split 46 rfl (fun k2 => ?_) (fun k2 => ?_)
      ·refine rl_gskip rfl rfl rfl rfl rfl rfl <| rl_gskip rfl rfl rfl rfl rfl rfl <| rl_gskip rfl rfl rfl rfl rfl rfl <| rl_gskip rfl rfl rfl rfl rfl rfl <| rl_v rfl rfl rfl (ov_pick_t rfl rfl rfl) <| rl_nil <| run_cond_t rfl <| run_seq <| run_region <| rl_v rfl rfl rfl (ov_assign rfl rfl) <| rl_v rfl rfl rfl (ov_assign rfl rfl) <| rl_v rfl rfl rfl (ov_assign rfl rfl) <| rl_nil <| run_ret Try.func64 (res3 Try.results64 rfl rfl rfl) ?_
       exact ⟨_, _, by rw [e1 (.inr (.inl (ndt k2)))], fun h => absurd ((e1 (.inr (.inl (ndt k2)))).symm.trans h) (by decide), (hQ.own).tail⟩
      ·refine rl_gv rfl rfl rfl rfl rfl (ov_fieldS rfl Try.underlying45 rfl (fo := 4) rfl (by kernel_rfl) rfl) ?_
       refine rl_gv rfl rfl rfl rfl rfl (ov_load rfl Try.underlying2 rfl rfl (by exact (hQ.own).cellL 0 rfl (off := 4) rfl)) ?_
       refine rl_gcall callable_54 rfl rfl rfl rfl rfl rfl rfl rfl (in_any c.p 1 1000000 w19) (fun e22 w23 hp24 => ?_)
       obtain ⟨rfl, hw⟩ := hp24
       refine ⟨_, rfl, ?_⟩
       subst hw
       refine rl_gv rfl rfl rfl rfl rfl (ov_not rfl rfl) <| rl_v rfl rfl rfl (ov_pick_f rfl rfl rfl) <| rl_nil ?_
       first | refine run_cond_dec rfl (fun k3 => ?_) (fun k3 => ?_) | refine run_cond rfl (fun k3 => ?_) (fun k3 => ?_)
       ·refine run_seq <| run_region <| rl_v rfl rfl rfl (ov_assign rfl rfl) <| rl_v rfl rfl rfl (ov_assign rfl rfl) <| rl_v rfl rfl rfl (ov_assign rfl rfl) <| rl_nil <| run_ret Try.func64 (res3 Try.results64 rfl rfl rfl) ?_
        exact ⟨_, _, by rw [e1 (.inr (.inr (ndt k3)))], fun h => absurd ((e1 (.inr (.inr (ndt k3)))).symm.trans h) (by decide), (hQ.own).tail⟩
       ·have n1 : ¬ c.bad := fun h => h.elim k1 fun h => h.elim (fun h => h (ndf k2)) fun h => h (ndf k3)
        have e5 : (X.acct c.b).out = true ∨ (X.acct c.s).out = true → X.par c = 5 := fun h => (if_neg n4).trans ((if_neg n1).trans (if_pos h))
        refine run_skip <| run_seq <| run_quiet mixed (by kernel_rfl) ?_
        refine rq_v rfl rfl rfl (fun _ => ov_move rfl rfl) ?_
        refine rq_v rfl rfl rfl (fun _ => ov_nil rfl rfl) ?_
        refine rq_v rfl rfl rfl (fun _ => ov_fieldS rfl Try.underlying124 rfl (fo := 17) rfl (by kernel_rfl) rfl) ?_
        refine rq_v rfl rfl rfl (fun _ => ov_load rfl Try.underlying120 rfl rfl (by show World.cell? w23 _ = _; first | exact (hQ.own).cellL (k + 1) hk (off := 17) rfl)) ?_
        refine rq_v rfl rfl rfl (fun _ => ov_fieldS rfl Try.underlying45 rfl (fo := 0) rfl (by kernel_rfl) rfl) ?_
        refine rq_v rfl rfl rfl (fun _ => ov_load rfl Try.underlying3 rfl rfl (by show World.cell? w23 _ = _; first | exact (hQ.own).cellL 0 rfl (off := 0) rfl)) ?_
        refine rq_v rfl rfl rfl (fun _ => ov_sub rfl rfl rfl (by omega)) ?_
        refine rq_v rfl rfl rfl (fun _ => ov_index rfl Try.underlying120 (by kernel_rfl) (s := 15) rfl rfl ⟨by omega, show c.b - 1 < (X.mem : Int) by omega⟩ rfl) ?_
        refine rq_v rfl rfl rfl (fun _ => ov_move rfl rfl) ?_
        refine rq_v rfl rfl rfl (fun _ => ov_nil rfl rfl) ?_
        refine rq_v rfl rfl rfl (fun _ => ov_fieldS rfl Try.underlying124 rfl (fo := 17) rfl (by kernel_rfl) rfl) ?_
        refine rq_v rfl rfl rfl (fun _ => ov_load rfl Try.underlying120 rfl rfl (by show World.cell? w23 _ = _; first | exact (hQ.own).cellL (k + 1) hk (off := 17) rfl)) ?_
        refine rq_v rfl rfl rfl (fun _ => ov_fieldS rfl Try.underlying45 rfl (fo := 1) rfl (by kernel_rfl) rfl) ?_
        refine rq_v rfl rfl rfl (fun _ => ov_load rfl Try.underlying3 rfl rfl (by show World.cell? w23 _ = _; first | exact (hQ.own).cellL 0 rfl (off := 1) rfl)) ?_
        refine rq_v rfl rfl rfl (fun _ => ov_sub rfl rfl rfl (by omega)) ?_
        refine rq_v rfl rfl rfl (fun _ => ov_index rfl Try.underlying120 (by kernel_rfl) (s := 15) rfl rfl ⟨by omega, show c.s - 1 < (X.mem : Int) by omega⟩ rfl) ?_
        refine rq_v rfl rfl rfl (fun _ => ov_assign rfl rfl) ?_
        refine rq_v rfl rfl rfl (fun _ => ov_assign rfl rfl) ?_
        refine rq_nil (fun n25 => ?_)
        have hO27 := (hQ.own).drewN n25
        generalize World.drewN w23 n25 = w26 at hO27 ⊢
        refine run_seq <| run_seq <| run_region <| rl_v rfl rfl rfl (ov_move rfl rfl) <| rl_v rfl rfl rfl (ov_nil rfl rfl) <| rl_v rfl rfl rfl (ov_fieldS rfl Try.underlying127 rfl (fo := 14) rfl (by kernel_rfl) rfl) ?_
        refine rl_v rfl rfl rfl (ov_load rfl Try.underlying4 rfl rfl (by exact (show _ = some (.bool (X.acct c.b).out) from hK.reads hO27 (kb + 1) hkb (c.b - 1) (by omega) (by omega) 14 (by decide)))) ?_
        refine rl_v rfl rfl rfl (ov_move rfl rfl) ?_
        first | refine rl_split_dec 72 rfl (fun o1 => ?_) (fun o1 => ?_) | refine rl_split 72 rfl (fun o1 => ?_) (fun o1 => ?_)
        ·refine rl_gskip rfl rfl rfl rfl rfl rfl <| rl_gskip rfl rfl rfl rfl rfl rfl <| rl_gskip rfl rfl rfl rfl rfl rfl <| rl_gskip rfl rfl rfl rfl rfl rfl <| rl_v rfl rfl rfl (ov_pick_t rfl rfl rfl) <| rl_nil <| run_cond_t rfl <| run_seq <| run_region <| rl_v rfl rfl rfl (ov_assign rfl rfl) <| rl_v rfl rfl rfl (ov_assign rfl rfl) <| rl_v rfl rfl rfl (ov_assign rfl rfl) <| rl_nil <| run_ret Try.func64 (res3 Try.results64 rfl rfl rfl) ?_
         exact ⟨_, _, by rw [e5 (.inl o1)], fun h => absurd ((e5 (.inl o1)).symm.trans h) (by decide), hO27.tail⟩
        ·refine rl_gv rfl rfl rfl rfl rfl (ov_move rfl rfl) <| rl_gv rfl rfl rfl rfl rfl (ov_nil rfl rfl) <| rl_gv rfl rfl rfl rfl rfl (ov_fieldS rfl Try.underlying127 rfl (fo := 14) rfl (by kernel_rfl) rfl) ?_
         refine rl_gv rfl rfl rfl rfl rfl (ov_load rfl Try.underlying4 rfl rfl (by exact (show _ = some (.bool (X.acct c.s).out) from hK.reads hO27 (kb + 1) hkb (c.s - 1) (by omega) (by omega) 14 (by decide)))) ?_
         refine rl_v rfl rfl rfl (ov_pick_f rfl rfl rfl) <| rl_nil ?_
         first | refine run_cond_dec rfl (fun o2 => ?_) (fun o2 => ?_) | refine run_cond rfl (fun o2 => ?_) (fun o2 => ?_)
         ·refine run_seq <| run_region <| rl_v rfl rfl rfl (ov_assign rfl rfl) <| rl_v rfl rfl rfl (ov_assign rfl rfl) <| rl_v rfl rfl rfl (ov_assign rfl rfl) <| rl_nil <| run_ret Try.func64 (res3 Try.results64 rfl rfl rfl) ?_
          exact ⟨_, _, by rw [e5 (.inr o2)], fun h => absurd ((e5 (.inr o2)).symm.trans h) (by decide), hO27.tail⟩
         ·have e0 : X.par c = 0 := (if_neg n4).trans ((if_neg n1).trans (if_neg fun h => by rw [o1, o2] at h; rcases h with h | h <;> cases h))
          refine run_skip <| run_seq <| run_region <| rl_v rfl rfl rfl (ov_move rfl rfl) <| rl_v rfl rfl rfl (ov_move rfl rfl) <| rl_v rfl rfl rfl (ov_assign rfl rfl) <| rl_v rfl rfl rfl (ov_assign rfl rfl) <| rl_v rfl rfl rfl (ov_assign rfl rfl) <| rl_nil <| run_ret Try.func64 (res3 Try.results64 rfl rfl rfl) ?_
          exact ⟨_, _, by rw [e0], fun _ => ⟨rfl, rfl, hb1, hs1, ⟨by omega, by omega⟩, k1, ndf k2, ndf k3, o1, o2⟩, hO27.tail⟩
end Go.Proofs.Ytfbbagnpdfafjaa
namespace Go.Proofs.Ytfbbagnpdfafjaa
open Go.RowKit
section
variable {P : Program} {f N : Nat} {k : List Item} {F : Fr} {w : World} {R : Ending → World → Prop} {ops : Array Oper} {o : Oper} {S : World → Prop} {fuel L : Nat} {listed : Array Bool} {Q : Exit → Act → World → Prop}
def wpLate (P : Program) (ops : Array Oper) (Q : Exit → Act → World → Prop) (S : World → Prop) (L : Nat) : Nat → Array Bool → Act → World → Prop
 | 0, listed, a, w => Region.ready .any ops listed = [] ∧ Q .normal a w
 | fuel + 1, listed, a, w => (Region.ready .any ops listed = [] → Q .normal a w) ∧ ∀ i ∈ Region.ready .any ops listed, wpOp P ops Q i (fun a' w' => (i = L ∨ S w') ∧ wpLate P ops Q S L fuel (listed.setIfInBounds i true) a' w') a w
theorem any_of_late : ∀ (fuel : Nat) (listed : Array Bool) (a : Act) (w : World), wpLate P ops Q S L fuel listed a w → wpAny P .any ops Q fuel listed a w
 | 0, _, _, _, h => h
 | fuel + 1, _, _, _, h => ⟨h.1, fun i hi => wpOp_mono (fun a' w' h' => any_of_late fuel _ a' w' h'.2) (h.2 i hi)⟩
def waitsB (ops : Array Oper) (L i : Nat) : Bool := ((ops[L]?).map fun o => o.after.any fun e => Region.binds .any e && e.on == i).getD false
theorem waits_spec {i : Nat} (h : waitsB ops L i = true) (hr : L ∈ Region.ready .any ops listed) : listed.getD i false = true := by
 obtain ⟨_, o, ho, hall⟩ := mem_ready.1 hr
 unfold waitsB at h
 rw [ho] at h
 simp only [Option.map_some, Option.getD_some, Array.any_eq_true, Bool.and_eq_true, beq_iff_eq] at h
 obtain ⟨j, hj, h1, h2⟩ := h
 rw [← h2]
 exact hall _ (Array.getElem_mem hj) h1
theorem late_first {i : Nat} {oi : Oper} {v : Value} (hi : ops[i]? = some oi) (hsel : ∀ (j : Nat) (o : Oper) cs b, ops[j]? = some o → o.op ≠ .select cs b)
  (hQ : ∀ c a w, Q (.panic c) (a.put oi.dst v) w → Q (.panic c) a w) (hL : waitsB ops L i = true) :
  ∀ (fuel : Nat) (listed : Array Bool) (a : Act) (w : World),
   (∀ j oj, ops[j]? = some oj → j ≠ i → listed.getD j true = false → (∀ e ∈ oj.after, Region.binds .any e = true → e.on ≠ i) → oi.apart ops oj = true) →
   i ∈ Region.ready .any ops listed → YieldsIf P ops S oi v a → S w →
   wpLate P ops Q S L fuel (listed.setIfInBounds i true) (a.put oi.dst v) w → wpLate P ops Q S L (fuel + 1) listed a w := by
 intro fuel
 induction fuel with
 | zero =>
  intro listed a w _ hr hy hS H
  refine ⟨fun h => (by rw [h] at hr; cases hr), fun j hj => ?_⟩
  by_cases hji : j = i
  ·subst hji; exact hy.wpOp hi hS ⟨.inr hS, H⟩
  ·have := ready_mono hj hji
   rw [H.1] at this
   cases this
 | succ fuel ih =>
  intro listed a w hfree hr hy hS H
  refine ⟨fun h => (by rw [h] at hr; cases hr), fun j hj => ?_⟩
  by_cases hji : j = i
  ·subst hji; exact hy.wpOp hi hS ⟨.inr hS, H⟩
  ·have hout : ∀ b : Bool, listed.getD i false = true → listed.getD i true = false → False := fun _ h1 h0 => by
    rcases Nat.lt_or_ge i listed.size with h' | h'
    ·simp [h'] at h0 h1; rw [h0] at h1; cases h1
    ·simp [Array.getElem?_eq_none h'] at h1
   have h0 := (mem_ready.1 hr).1
   have hjL : j ≠ L := fun e => hout true (waits_spec hL (e ▸ hj)) h0
   have h1 := H.2 j (ready_mono hj hji)
   obtain ⟨hjun, oj, hoj, hall⟩ := mem_ready.1 hj
   have hnot : ∀ e ∈ oj.after, Region.binds .any e = true → e.on ≠ i := fun e he hb heq => by
    have h1 := hall e he hb
    rw [heq] at h1
    exact hout true h1 h0
   have h2 := wpOp_putIf hoj (hfree j oj hoj hji hjun hnot) (fun cs b => hsel i oi cs b hi) (fun cs b => hsel j oj cs b hoj) hQ hy h1
   have hfree' : ∀ k ok, ops[k]? = some ok → k ≠ i → (listed.setIfInBounds j true).getD k true = false →
     (∀ e ∈ ok.after, Region.binds .any e = true → e.on ≠ i) → oi.apart ops ok = true := fun k ok hk hki hun hno => by
    refine hfree k ok hk hki ?_ hno
    by_cases hjk : j = k
    ·subst hjk; exact hjun
    ·rw [getD_set_ne true hjk] at hun; exact hun
   refine wpOp_mono (fun a' w' h3 => ?_) h2
   have hS' : S w' := h3.2.1.resolve_left hjL
   refine ⟨.inr hS', ih (listed.setIfInBounds j true) a' w' hfree' (ready_mono hr (Ne.symm hji)) h3.1 hS' ?_⟩
   rw [Array.setIfInBounds_comm _ _ hji]
   exact h3.2.2
def RHL (P : Program) (f N : Nat) (ops : Array Oper) (S : World → Prop) (L fuel : Nat) (listed : Array Bool) (k : List Item) (F : Fr) (w : World) (R : Ending → World → Prop) : Prop :=
 ∀ a, Holds N F a → wpLate P ops (QK P f k R) S L fuel listed a w
theorem run_late {id : Nat} {l : List Oper} (S : World → Prop) (L : Nat) (hm : P.follows .mixedOrders = true) (h : RHL P f N l.toArray S L l.length (Array.replicate l.length false) k F w.drew R) : Run P f N (.code (.region id l.toArray true) :: k) F w R :=
 fun a ha => runA_of_wp (wp_region_any hm (any_of_late _ _ _ _ (by simpa using h a ha)))
theorem rhl_v {d : Nat} {v : Value} {oi : Oper} (i : Nat) (hi : ops[i]? = some oi) (hs : (Region.noSelect ops && Region.free .any ops listed i && (Region.ready .any ops listed).contains i && waitsB ops L i) = true)
  (hg : oi.guard = none) (hd : oi.dst = some d) (hN : Nat.blt d N = true) (hS : S w) (hv : ∀ w', S w' → OpV P N oi F w' v) (h : RHL P f N ops S L fuel (listed.setIfInBounds i true) k ((d, v) :: F) w R) : RHL P f N ops S L (fuel + 1) listed k F w R := by
 intro a ha
 simp only [Bool.and_eq_true] at hs
 refine late_first hi (Region.noSelect_spec hs.1.1.1) (fun _ _ _ h => qk_put h) hs.2 fuel listed a w (Region.free_spec hi hs.1.1.2) (by simpa using hs.1.2) (v := v) (.inl ⟨by simp [Region.wanted, hg], fun w' hw' => hv w' hw' a ha⟩) hS ?_
 rw [hd]
 exact h _ (ha.put (lt_of_blt hN) v)
theorem rhl_done (hr : (Region.ready .any ops listed).isEmpty = true) (h : Run P f N k F w R) : RHL P f N ops S L fuel listed k F w R := by
 intro a ha
 have hr' : Region.ready .any ops listed = [] := by simpa using hr
 cases fuel with
 | zero => exact ⟨hr', h a ha⟩
 | succ fuel => exact ⟨fun _ => h a ha, by rw [hr']; simp⟩
def RCL (P : Program) (f N : Nat) (ops : Array Oper) (S : World → Prop) (L fuel : Nat) (listed : Array Bool) (k : List Item) (i : Nat) (F : Fr) (w : World) (R : Ending → World → Prop) : Prop :=
 ∀ a, Holds N F a → wpOp P ops (QK P f k R) i (fun a' w' => (i = L ∨ S w') ∧ wpLate P ops (QK P f k R) S L fuel (listed.setIfInBounds i true) a' w') a w
theorem rcl_op {oi : Oper} {i : Nat} {Post : Fr → World → Prop} (hi : ops[i]? = some oi) (hg : oi.guard = none) (hw : OpW P N oi F w Post)
  (h : ∀ F' w', Post F' w' → S w' ∧ RHL P f N ops S L fuel (listed.setIfInBounds i true) k F' w' R) : RCL P f N ops S L fuel listed k i F w R := by
 intro a ha
 unfold wpOp
 rw [hi]
 simp only [Region.wanted, hg, if_true]
 exact .inl (hw a ha _ _ fun F' a' w' hp ha' => ⟨.inr (h F' w' hp).1, (h F' w' hp).2 a' ha'⟩)
theorem rcl_last {oi : Oper} {Post : Fr → World → Prop} (hi : ops[L]? = some oi) (hg : oi.guard = none) (hw : OpW P N oi F w Post)
  (h : ∀ F' w', Post F' w' → RHL P f N ops S L fuel (listed.setIfInBounds L true) k F' w' R) : RCL P f N ops S L fuel listed k L F w R := by
 intro a ha
 unfold wpOp
 rw [hi]
 have hwt : Region.wanted oi (yielded ops a.tmps) = true := by simp [Region.wanted, hg]
 show (if Region.wanted oi (yielded ops a.tmps) = true then _ else _)
 rw [if_pos hwt]
 exact .inl (hw a ha _ _ fun F' a' w' hp ha' => ⟨.inl rfl, h F' w' hp a' ha'⟩)
theorem late_all {rs : List Nat} {a : Act} (hr : Region.ready .any ops listed = rs) (hne : rs ≠ [])
  (h : ∀ i ∈ rs, wpOp P ops Q i (fun a' w' => (i = L ∨ S w') ∧ wpLate P ops Q S L fuel (listed.setIfInBounds i true) a' w') a w) : wpLate P ops Q S L (fuel + 1) listed a w :=
 ⟨fun h0 => absurd (hr ▸ h0) hne, hr ▸ h⟩
theorem rhl_any1 (i : Nat) (hr : Region.ready .any ops listed = [i]) (h : RCL P f N ops S L fuel listed k i F w R) : RHL P f N ops S L (fuel + 1) listed k F w R := by
 intro a ha
 refine late_all hr (by simp) fun j hj => ?_
 obtain rfl : j = i := by simpa using hj
 exact h a ha
theorem rhl_any2 (i j : Nat) (hr : Region.ready .any ops listed = [i, j]) (h1 : RCL P f N ops S L fuel listed k i F w R) (h2 : RCL P f N ops S L fuel listed k j F w R) : RHL P f N ops S L (fuel + 1) listed k F w R := by
 intro a ha
 refine late_all hr (by simp) fun q hq => ?_
 rcases List.mem_cons.1 hq with rfl | hq
 ·exact h1 a ha
 ·obtain rfl : q = j := by simpa using hq
  exact h2 a ha
end
end Go.Proofs.Ytfbbagnpdfafjaa
