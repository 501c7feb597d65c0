import Derived.Test.YtfbbagnpdfafjaaHaF
set_option maxRecDepth 100000
namespace Go.Proofs.Ytfbbagnpdfafjaa
open Go.RowKit Go.Proofs
def Ct.z : Ct := ⟨0, 0, 0, 0, 0⟩
def HM.no4 (X : HM) (c : Ct) : Prop := ¬ X.is c.b ∨ ¬ X.is c.s ∨ c.m < 0 ∨ X.mo ≤ c.m
def Ct.bad (c : Ct) : Prop := c.b = c.s ∨ ¬ (1 ≤ c.q ∧ c.q ≤ 1000000) ∨ ¬ (1 ≤ c.p ∧ c.p ≤ 1000000)
instance (X : HM) (c : Ct) : Decidable (X.no4 c) := by unfold HM.no4; exact inferInstance
instance (c : Ct) : Decidable c.bad := by unfold Ct.bad; exact inferInstance
def HM.par (X : HM) (c : Ct) : Int := if X.no4 c then 4 else if c.bad then 1 else if (X.acct c.b).out = true ∨ (X.acct c.s).out = true then 5 else 0
structure Par (X : HM) (c : Ct) : Prop where
 b : 1 ≤ c.b ∧ c.b ≤ X.mem
 s : 1 ≤ c.s ∧ c.s ≤ X.mem
 m : 0 ≤ c.m ∧ c.m < X.mo
 ne : c.b ≠ c.s
 q : 1 ≤ c.q ∧ c.q ≤ 1000000
 p : 1 ≤ c.p ∧ c.p ≤ 1000000
 bo : (X.acct c.b).out = false
 so : (X.acct c.s).out = false
theorem parties_any (hb B : Nat) (X : HM) (K : HK) (c : Ct) (N H : List (Option Blk)) (w0 w : World) (hO : Own B w0 w H) (k kb : Nat) (hk : H[k]? = some (houB hb (X.r K))) (hkb : H[kb]? = some K.blk) (hK : HOk X K N) (hG : HG X) :
  Calls Try.prog 64 #[ptr hb, .agg (ctL c).toArray] w fun e w' => ∃ p1 p2, e = .returned (.tuple #[p1, p2, iv (X.par c)]) ∧ (X.par c = 0 → p1 = .pointer (some ⟨K.ab, 0 + (c.b - 1).toNat * 15, none⟩) ∧ p2 = .pointer (some ⟨K.ab, 0 + (c.s - 1).toNat * 15, none⟩) ∧ Par X c) ∧ Own B w0 w' H := by
 have hmem := hG.mem
 have e4 : X.no4 c → X.par c = 4 := fun h => if_pos h
 refine calls_of_run (F := [(0, _), (1, _)]) Try.func64 rfl Try.ntmps64 rfl rfl <| run_seq <| run_region <| rl_ow rfl (ow_box _ rfl rfl rfl rfl rfl hO) ?_
 rintro _ w1 ⟨b3, rfl, hO2, hs3⟩
 refine rl_v rfl rfl rfl (ov_assign rfl rfl) <| rl_v rfl rfl rfl (ov_assign rfl rfl) <| rl_v rfl rfl rfl (ov_assign rfl rfl) <| rl_nil <| run_seq <| run_seq <| run_region <| rl_v rfl rfl rfl (ov_move rfl rfl) <| rl_v rfl rfl rfl (ov_ptrnil rfl Try.underlying30 rfl) <| rl_nil <| run_cond_f rfl <| run_skip <| run_seq <| run_seq <| run_class (Cl B w0 (some (lch b3 45 (ctL c)) :: H)) (⟨hO2.drew⟩) mixed (by kernel_rfl) ?_
 refine rk_v rfl rfl rfl (fun wq hQ => ov_move rfl rfl) ?_
 refine rk_v rfl rfl rfl (fun wq hQ => ov_fieldS rfl Try.underlying45 rfl (fo := 0) rfl (by kernel_rfl) rfl) ?_
 refine rk_v rfl rfl rfl (fun wq hQ => ov_load rfl Try.underlying3 rfl rfl (by exact (hQ.own).cellL 0 rfl (off := 0) rfl)) ?_
 refine rk_call callable_110 rfl rfl rfl rfl rfl rfl (fun wq hQ => (isMember_any hb B (k + 1) (X.r K) c.b _ w0 wq (hQ.own) hk).mono fun _ _ h => ⟨h.1, h.2 ▸ hQ⟩) ?_
 refine rk_v rfl rfl rfl (fun wq hQ => ov_not rfl rfl) ?_
 refine rk_v rfl rfl rfl (fun wq hQ => ov_move rfl rfl) ?_
 first | refine rk_split_dec 14 rfl (fun g1 => ?_) (fun g1 => ?_) | refine rk_split 14 rfl (fun g1 => ?_) (fun g1 => ?_)
 ·refine rk_gskip rfl rfl rfl rfl rfl rfl <| rk_gskip rfl rfl rfl rfl rfl rfl <| rk_gskip rfl rfl rfl rfl rfl rfl <| rk_gskip rfl rfl rfl rfl rfl rfl <| rk_gskip rfl rfl rfl rfl rfl rfl <| rk_v rfl rfl rfl (fun wq hQ => ov_pick_t rfl rfl rfl) ?_
  refine rk_v rfl rfl rfl (fun wq hQ => ov_move rfl rfl) ?_
  refine rk_gskip rfl rfl rfl rfl rfl rfl <| rk_gskip rfl rfl rfl rfl rfl rfl <| rk_gskip rfl rfl rfl rfl rfl rfl <| rk_v rfl rfl rfl (fun wq hQ => ov_pick_t rfl rfl rfl) ?_
  refine rk_v rfl rfl rfl (fun wq hQ => ov_move rfl rfl) ?_
  refine rk_gskip rfl rfl rfl rfl rfl rfl <| rk_gskip rfl rfl rfl rfl rfl rfl <| rk_gskip rfl rfl rfl rfl rfl rfl <| rk_gskip rfl rfl rfl rfl rfl rfl <| rk_gskip rfl rfl rfl rfl rfl rfl <| rk_gskip rfl rfl rfl rfl rfl rfl <| rk_gskip rfl rfl rfl rfl rfl rfl <| rk_v rfl rfl rfl (fun wq hQ => ov_pick_t rfl rfl rfl) ?_
  refine rk_nil (fun w8 hQ => ?_)
  refine run_cond_t rfl <| run_seq <| run_region <| rl_v rfl rfl rfl (ov_assign rfl rfl) <| rl_v rfl rfl rfl (ov_assign rfl rfl) <| rl_v rfl rfl rfl (ov_assign rfl rfl) <| rl_nil <| run_ret Try.func64 (res3 Try.results64 rfl rfl rfl) ?_
  exact ⟨_, _, by rw [e4 (.inl (ndt g1))], fun h => absurd ((e4 (.inl (ndt g1))).symm.trans h) (by decide), (hQ.own).tail⟩
 ·refine rk_gv rfl rfl rfl rfl rfl (fun wq hQ => ov_move rfl rfl) ?_
  refine rk_gv rfl rfl rfl rfl rfl (fun wq hQ => ov_fieldS rfl Try.underlying45 rfl (fo := 1) rfl (by kernel_rfl) rfl) ?_
  refine rk_gv rfl rfl rfl rfl rfl (fun wq hQ => ov_load rfl Try.underlying3 rfl rfl (by exact (hQ.own).cellL 0 rfl (off := 1) rfl)) ?_
  refine rk_gcall callable_110 rfl rfl rfl rfl rfl rfl rfl rfl (fun wq hQ => (isMember_any hb B (k + 1) (X.r K) c.s _ w0 wq (hQ.own) hk).mono fun _ _ h => ⟨h.1, h.2 ▸ hQ⟩) ?_
  refine rk_gv rfl rfl rfl rfl rfl (fun wq hQ => ov_not rfl rfl) ?_
  refine rk_v rfl rfl rfl (fun wq hQ => ov_pick_f rfl rfl rfl) ?_
  refine rk_v rfl rfl rfl (fun wq hQ => ov_move rfl rfl) ?_
  first | refine rk_split_dec 21 rfl (fun g2 => ?_) (fun g2 => ?_) | refine rk_split 21 rfl (fun g2 => ?_) (fun g2 => ?_)
  ·refine rk_gskip rfl rfl rfl rfl rfl rfl <| rk_gskip rfl rfl rfl rfl rfl rfl <| rk_gskip rfl rfl rfl rfl rfl rfl <| rk_v rfl rfl rfl (fun wq hQ => ov_pick_t rfl rfl rfl) ?_
   refine rk_v rfl rfl rfl (fun wq hQ => ov_move rfl rfl) ?_
   refine rk_gskip rfl rfl rfl rfl rfl rfl <| rk_gskip rfl rfl rfl rfl rfl rfl <| rk_gskip rfl rfl rfl rfl rfl rfl <| rk_gskip rfl rfl rfl rfl rfl rfl <| rk_gskip rfl rfl rfl rfl rfl rfl <| rk_gskip rfl rfl rfl rfl rfl rfl <| rk_gskip rfl rfl rfl rfl rfl rfl <| rk_v rfl rfl rfl (fun wq hQ => ov_pick_t rfl rfl rfl) ?_
   refine rk_nil (fun w13 hQ => ?_)
   refine run_cond_t rfl <| run_seq <| run_region <| rl_v rfl rfl rfl (ov_assign rfl rfl) <| rl_v rfl rfl rfl (ov_assign rfl rfl) <| rl_v rfl rfl rfl (ov_assign rfl rfl) <| rl_nil <| run_ret Try.func64 (res3 Try.results64 rfl rfl rfl) ?_
   exact ⟨_, _, by rw [e4 (.inr (.inl (ndt g2)))], fun h => absurd ((e4 (.inr (.inl (ndt g2)))).symm.trans h) (by decide), (hQ.own).tail⟩
  ·refine rk_gv rfl rfl rfl rfl rfl (fun wq hQ => ov_fieldS rfl Try.underlying45 rfl (fo := 2) rfl (by kernel_rfl) rfl) ?_
   refine rk_gv rfl rfl rfl rfl rfl (fun wq hQ => ov_load rfl Try.underlying3 rfl rfl (by exact (hQ.own).cellL 0 rfl (off := 2) rfl)) ?_
   refine rk_gv rfl rfl rfl rfl rfl (fun wq hQ => ov_lss rfl rfl rfl) ?_
   refine rk_v rfl rfl rfl (fun wq hQ => ov_pick_f rfl rfl rfl) ?_
   refine rk_v rfl rfl rfl (fun wq hQ => ov_move rfl rfl) ?_
   first | refine rk_split_dec 26 rfl (fun g3 => ?_) (fun g3 => ?_) | refine rk_split 26 rfl (fun g3 => ?_) (fun g3 => ?_)
   ·refine rk_gskip rfl rfl rfl rfl rfl rfl <| rk_gskip rfl rfl rfl rfl rfl rfl <| rk_gskip rfl rfl rfl rfl rfl rfl <| rk_gskip rfl rfl rfl rfl rfl rfl <| rk_gskip rfl rfl rfl rfl rfl rfl <| rk_gskip rfl rfl rfl rfl rfl rfl <| rk_gskip rfl rfl rfl rfl rfl rfl <| rk_v rfl rfl rfl (fun wq hQ => ov_pick_t rfl rfl rfl) ?_
    refine rk_nil (fun w15 hQ => ?_)
    refine run_cond_t rfl <| run_seq <| run_region <| rl_v rfl rfl rfl (ov_assign rfl rfl) <| rl_v rfl rfl rfl (ov_assign rfl rfl) <| rl_v rfl rfl rfl (ov_assign rfl rfl) <| rl_nil <| run_ret Try.func64 (res3 Try.results64 rfl rfl rfl) ?_
    exact ⟨_, _, by rw [e4 (.inr (.inr (.inl g3)))], fun h => absurd ((e4 (.inr (.inr (.inl g3)))).symm.trans h) (by decide), (hQ.own).tail⟩
   ·refine rk_gv rfl rfl rfl rfl rfl (fun wq hQ => ov_fieldS rfl Try.underlying45 rfl (fo := 2) rfl (by kernel_rfl) rfl) ?_
    refine rk_gv rfl rfl rfl rfl rfl (fun wq hQ => ov_load rfl Try.underlying3 rfl rfl (by exact (hQ.own).cellL 0 rfl (off := 2) rfl)) ?_
    refine rk_gv rfl rfl rfl rfl rfl (fun wq hQ => ov_move rfl rfl) ?_
    refine rk_gv rfl rfl rfl rfl rfl (fun wq hQ => ov_nil rfl rfl) ?_
    refine rk_gv rfl rfl rfl rfl rfl (fun wq hQ => ov_fieldS rfl Try.underlying124 rfl (fo := 0) rfl (by kernel_rfl) rfl) ?_
    refine rk_gv rfl rfl rfl rfl rfl (fun wq hQ => ov_load rfl Try.underlying3 rfl rfl (by exact (hQ.own).cellL (k + 1) hk (off := 0) rfl)) ?_
    refine rk_gv rfl rfl rfl rfl rfl (fun wq hQ => ov_geq rfl rfl rfl) ?_
    refine rk_v rfl rfl rfl (fun wq hQ => ov_pick_f rfl rfl rfl) ?_
    refine rk_nil (fun w16 hQ => ?_)
    first | refine run_cond_dec rfl (fun g4 => ?_) (fun g4 => ?_) | refine run_cond rfl (fun g4 => ?_) (fun g4 => ?_)
    ·have g4' : X.mo ≤ c.m := g4
     refine run_seq <| run_region <| rl_v rfl rfl rfl (ov_assign rfl rfl) <| rl_v rfl rfl rfl (ov_assign rfl rfl) <| rl_v rfl rfl rfl (ov_assign rfl rfl) <| rl_nil <| run_ret Try.func64 (res3 Try.results64 rfl rfl rfl) ?_
     exact ⟨_, _, by rw [e4 (.inr (.inr (.inr g4')))], fun h => absurd ((e4 (.inr (.inr (.inr g4')))).symm.trans h) (by decide), (hQ.own).tail⟩
    ·have hb1 : 1 ≤ c.b ∧ c.b ≤ X.mem := ndf g1
     have hs1 : 1 ≤ c.s ∧ c.s ≤ X.mem := ndf g2
     have g4' : ¬ X.mo ≤ c.m := g4
     have n4 : ¬ X.no4 c := fun h => h.elim (fun h => h hb1) fun h => h.elim (fun h => h hs1) fun h => h.elim g3 g4'
     have e1 : c.bad → X.par c = 1 := fun h => (if_neg n4).trans (if_pos h)
     refine run_skip <| run_seq <| run_seq <| run_region <| rl_v rfl rfl rfl (ov_fieldS rfl Try.underlying45 rfl (fo := 0) rfl (by kernel_rfl) rfl) ?_
     refine rl_v rfl rfl rfl (ov_load rfl Try.underlying3 rfl rfl (by exact (hQ.own).cellL 0 rfl (off := 0) rfl)) ?_
     refine rl_v rfl rfl rfl (ov_fieldS rfl Try.underlying45 rfl (fo := 1) rfl (by kernel_rfl) rfl) ?_
     refine rl_v rfl rfl rfl (ov_load rfl Try.underlying3 rfl rfl (by exact (hQ.own).cellL 0 rfl (off := 1) rfl)) ?_
     refine rl_v rfl rfl rfl (ov_eql rfl rfl rfl) <| rl_v rfl rfl rfl (ov_move rfl rfl) ?_
     first | refine rl_split_dec 40 rfl (fun k1 => ?_) (fun k1 => ?_) | refine rl_split 40 rfl (fun k1 => ?_) (fun k1 => ?_)
     ·refine rl_gskip rfl rfl rfl rfl rfl rfl <| rl_gskip rfl rfl rfl rfl rfl rfl <| rl_gskip rfl rfl rfl rfl rfl rfl <| rl_gskip rfl rfl rfl rfl rfl rfl <| rl_v rfl rfl rfl (ov_pick_t rfl rfl rfl) <| rl_v rfl rfl rfl (ov_move rfl rfl) <| rl_gskip rfl rfl rfl rfl rfl rfl <| rl_gskip rfl rfl rfl rfl rfl rfl <| rl_gskip rfl rfl rfl rfl rfl rfl <| rl_gskip rfl rfl rfl rfl rfl rfl <| rl_v rfl rfl rfl (ov_pick_t rfl rfl rfl) <| rl_nil <| run_cond_t rfl <| run_seq <| run_region <| rl_v rfl rfl rfl (ov_assign rfl rfl) <| rl_v rfl rfl rfl (ov_assign rfl rfl) <| rl_v rfl rfl rfl (ov_assign rfl rfl) <| rl_nil <| run_ret Try.func64 (res3 Try.results64 rfl rfl rfl) ?_
      exact ⟨_, _, by rw [e1 (.inl k1)], fun h => absurd ((e1 (.inl k1)).symm.trans h) (by decide), (hQ.own).tail⟩
     ·refine rl_gv rfl rfl rfl rfl rfl (ov_fieldS rfl Try.underlying45 rfl (fo := 3) rfl (by kernel_rfl) rfl) ?_
      refine rl_gv rfl rfl rfl rfl rfl (ov_load rfl Try.underlying2 rfl rfl (by exact (hQ.own).cellL 0 rfl (off := 3) rfl)) ?_
      refine rl_gcall callable_54 rfl rfl rfl rfl rfl rfl rfl rfl (in_any c.q 1 1000000 w16) (fun e18 w19 hp20 => ?_)
      obtain ⟨rfl, hw⟩ := hp20
      refine ⟨_, rfl, ?_⟩
      subst hw
      refine rl_gv rfl rfl rfl rfl rfl (ov_not rfl rfl) <| rl_v rfl rfl rfl (ov_pick_f rfl rfl rfl) <| rl_v rfl rfl rfl (ov_move rfl rfl) ?_
      first | refine rl_split_dec 46 rfl (fun k2 => ?_) (fun k2 => ?_) | refine rl_split 46 rfl (fun k2 => ?_) (fun k2 => ?_)
      ·refine rl_gskip rfl rfl rfl rfl rfl rfl <| rl_gskip rfl rfl rfl rfl rfl rfl <| rl_gskip rfl rfl rfl rfl rfl rfl <| rl_gskip rfl rfl rfl rfl rfl rfl <| rl_v rfl rfl rfl (ov_pick_t rfl rfl rfl) <| rl_nil <| run_cond_t rfl <| run_seq <| run_region <| rl_v rfl rfl rfl (ov_assign rfl rfl) <| rl_v rfl rfl rfl (ov_assign rfl rfl) <| rl_v rfl rfl rfl (ov_assign rfl rfl) <| rl_nil <| run_ret Try.func64 (res3 Try.results64 rfl rfl rfl) ?_
       exact ⟨_, _, by rw [e1 (.inr (.inl (ndt k2)))], fun h => absurd ((e1 (.inr (.inl (ndt k2)))).symm.trans h) (by decide), (hQ.own).tail⟩
      ·refine rl_gv rfl rfl rfl rfl rfl (ov_fieldS rfl Try.underlying45 rfl (fo := 4) rfl (by kernel_rfl) rfl) ?_
       refine rl_gv rfl rfl rfl rfl rfl (ov_load rfl Try.underlying2 rfl rfl (by exact (hQ.own).cellL 0 rfl (off := 4) rfl)) ?_
       refine rl_gcall callable_54 rfl rfl rfl rfl rfl rfl rfl rfl (in_any c.p 1 1000000 w19) (fun e22 w23 hp24 => ?_)
       obtain ⟨rfl, hw⟩ := hp24
       refine ⟨_, rfl, ?_⟩
       subst hw
       refine rl_gv rfl rfl rfl rfl rfl (ov_not rfl rfl) <| rl_v rfl rfl rfl (ov_pick_f rfl rfl rfl) <| rl_nil ?_
       first | refine run_cond_dec rfl (fun k3 => ?_) (fun k3 => ?_) | refine run_cond rfl (fun k3 => ?_) (fun k3 => ?_)
       ·refine run_seq <| run_region <| rl_v rfl rfl rfl (ov_assign rfl rfl) <| rl_v rfl rfl rfl (ov_assign rfl rfl) <| rl_v rfl rfl rfl (ov_assign rfl rfl) <| rl_nil <| run_ret Try.func64 (res3 Try.results64 rfl rfl rfl) ?_
        exact ⟨_, _, by rw [e1 (.inr (.inr (ndt k3)))], fun h => absurd ((e1 (.inr (.inr (ndt k3)))).symm.trans h) (by decide), (hQ.own).tail⟩
       ·have n1 : ¬ c.bad := fun h => h.elim k1 fun h => h.elim (fun h => h (ndf k2)) fun h => h (ndf k3)
        have e5 : (X.acct c.b).out = true ∨ (X.acct c.s).out = true → X.par c = 5 := fun h => (if_neg n4).trans ((if_neg n1).trans (if_pos h))
        refine run_skip <| run_seq <| run_quiet mixed (by kernel_rfl) ?_
        refine rq_v rfl rfl rfl (fun _ => ov_move rfl rfl) ?_
        refine rq_v rfl rfl rfl (fun _ => ov_nil rfl rfl) ?_
        refine rq_v rfl rfl rfl (fun _ => ov_fieldS rfl Try.underlying124 rfl (fo := 17) rfl (by kernel_rfl) rfl) ?_
        refine rq_v rfl rfl rfl (fun _ => ov_load rfl Try.underlying120 rfl rfl (by show World.cell? w23 _ = _; first | exact (hQ.own).cellL (k + 1) hk (off := 17) rfl)) ?_
        refine rq_v rfl rfl rfl (fun _ => ov_fieldS rfl Try.underlying45 rfl (fo := 0) rfl (by kernel_rfl) rfl) ?_
        refine rq_v rfl rfl rfl (fun _ => ov_load rfl Try.underlying3 rfl rfl (by show World.cell? w23 _ = _; first | exact (hQ.own).cellL 0 rfl (off := 0) rfl)) ?_
        refine rq_v rfl rfl rfl (fun _ => ov_sub rfl rfl rfl (by omega)) ?_
        refine rq_v rfl rfl rfl (fun _ => ov_index rfl Try.underlying120 (by kernel_rfl) (s := 15) rfl rfl ⟨by omega, show c.b - 1 < (X.mem : Int) by omega⟩ rfl) ?_
        refine rq_v rfl rfl rfl (fun _ => ov_move rfl rfl) ?_
        refine rq_v rfl rfl rfl (fun _ => ov_nil rfl rfl) ?_
        refine rq_v rfl rfl rfl (fun _ => ov_fieldS rfl Try.underlying124 rfl (fo := 17) rfl (by kernel_rfl) rfl) ?_
        refine rq_v rfl rfl rfl (fun _ => ov_load rfl Try.underlying120 rfl rfl (by show World.cell? w23 _ = _; first | exact (hQ.own).cellL (k + 1) hk (off := 17) rfl)) ?_
        refine rq_v rfl rfl rfl (fun _ => ov_fieldS rfl Try.underlying45 rfl (fo := 1) rfl (by kernel_rfl) rfl) ?_
        refine rq_v rfl rfl rfl (fun _ => ov_load rfl Try.underlying3 rfl rfl (by show World.cell? w23 _ = _; first | exact (hQ.own).cellL 0 rfl (off := 1) rfl)) ?_
        refine rq_v rfl rfl rfl (fun _ => ov_sub rfl rfl rfl (by omega)) ?_
        refine rq_v rfl rfl rfl (fun _ => ov_index rfl Try.underlying120 (by kernel_rfl) (s := 15) rfl rfl ⟨by omega, show c.s - 1 < (X.mem : Int) by omega⟩ rfl) ?_
        refine rq_v rfl rfl rfl (fun _ => ov_assign rfl rfl) ?_
        refine rq_v rfl rfl rfl (fun _ => ov_assign rfl rfl) ?_
        refine rq_nil (fun n25 => ?_)
        have hO27 := (hQ.own).drewN n25
        generalize World.drewN w23 n25 = w26 at hO27 ⊢
        refine run_seq <| run_seq <| run_region <| rl_v rfl rfl rfl (ov_move rfl rfl) <| rl_v rfl rfl rfl (ov_nil rfl rfl) <| rl_v rfl rfl rfl (ov_fieldS rfl Try.underlying127 rfl (fo := 14) rfl (by kernel_rfl) rfl) ?_
        refine rl_v rfl rfl rfl (ov_load rfl Try.underlying4 rfl rfl (by exact (show _ = some (.bool (X.acct c.b).out) from hK.reads hO27 (kb + 1) hkb (c.b - 1) (by omega) (by omega) 14 (by decide)))) ?_
        refine rl_v rfl rfl rfl (ov_move rfl rfl) ?_
        first | refine rl_split_dec 72 rfl (fun o1 => ?_) (fun o1 => ?_) | refine rl_split 72 rfl (fun o1 => ?_) (fun o1 => ?_)
        ·refine rl_gskip rfl rfl rfl rfl rfl rfl <| rl_gskip rfl rfl rfl rfl rfl rfl <| rl_gskip rfl rfl rfl rfl rfl rfl <| rl_gskip rfl rfl rfl rfl rfl rfl <| rl_v rfl rfl rfl (ov_pick_t rfl rfl rfl) <| rl_nil <| run_cond_t rfl <| run_seq <| run_region <| rl_v rfl rfl rfl (ov_assign rfl rfl) <| rl_v rfl rfl rfl (ov_assign rfl rfl) <| rl_v rfl rfl rfl (ov_assign rfl rfl) <| rl_nil <| run_ret Try.func64 (res3 Try.results64 rfl rfl rfl) ?_
         exact ⟨_, _, by rw [e5 (.inl o1)], fun h => absurd ((e5 (.inl o1)).symm.trans h) (by decide), hO27.tail⟩
        ·refine rl_gv rfl rfl rfl rfl rfl (ov_move rfl rfl) <| rl_gv rfl rfl rfl rfl rfl (ov_nil rfl rfl) <| rl_gv rfl rfl rfl rfl rfl (ov_fieldS rfl Try.underlying127 rfl (fo := 14) rfl (by kernel_rfl) rfl) ?_
         refine rl_gv rfl rfl rfl rfl rfl (ov_load rfl Try.underlying4 rfl rfl (by exact (show _ = some (.bool (X.acct c.s).out) from hK.reads hO27 (kb + 1) hkb (c.s - 1) (by omega) (by omega) 14 (by decide)))) ?_
         refine rl_v rfl rfl rfl (ov_pick_f rfl rfl rfl) <| rl_nil ?_
         first | refine run_cond_dec rfl (fun o2 => ?_) (fun o2 => ?_) | refine run_cond rfl (fun o2 => ?_) (fun o2 => ?_)
         ·refine run_seq <| run_region <| rl_v rfl rfl rfl (ov_assign rfl rfl) <| rl_v rfl rfl rfl (ov_assign rfl rfl) <| rl_v rfl rfl rfl (ov_assign rfl rfl) <| rl_nil <| run_ret Try.func64 (res3 Try.results64 rfl rfl rfl) ?_
          exact ⟨_, _, by rw [e5 (.inr o2)], fun h => absurd ((e5 (.inr o2)).symm.trans h) (by decide), hO27.tail⟩
         ·have e0 : X.par c = 0 := (if_neg n4).trans ((if_neg n1).trans (if_neg fun h => by rw [o1, o2] at h; rcases h with h | h <;> cases h))
          refine run_skip <| run_seq <| run_region <| rl_v rfl rfl rfl (ov_move rfl rfl) <| rl_v rfl rfl rfl (ov_move rfl rfl) <| rl_v rfl rfl rfl (ov_assign rfl rfl) <| rl_v rfl rfl rfl (ov_assign rfl rfl) <| rl_v rfl rfl rfl (ov_assign rfl rfl) <| rl_nil <| run_ret Try.func64 (res3 Try.results64 rfl rfl rfl) ?_
          exact ⟨_, _, by rw [e0], fun _ => ⟨rfl, rfl, hb1, hs1, ⟨by omega, by omega⟩, k1, ndf k2, ndf k3, o1, o2⟩, hO27.tail⟩
end Go.Proofs.Ytfbbagnpdfafjaa
