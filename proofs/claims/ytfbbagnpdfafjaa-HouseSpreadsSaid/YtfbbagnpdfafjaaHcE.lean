import Derived.Test.YtfbbagnpdfafjaaHcD
set_option maxRecDepth 100000
namespace Go.Proofs.Ytfbbagnpdfafjaa
open Go.RowKit Go.Proofs
theorem prE_zero {X : HM} {c : Ct} (h : X.prE c = 0) : (1 ≤ c.b ∧ c.b ≤ X.mem) ∧ (1 ≤ c.s ∧ c.s ≤ X.mem) ∧ (0 ≤ c.m ∧ c.m < X.mo) ∧ c.b ≠ c.s ∧ 1 ≤ c.q ∧ c.q ≤ 1000000 := by
 unfold HM.prE at h
 split at h
 ·cases h
 ·rename_i h4
  split at h
  ·cases h
  ·rename_i h1
   unfold HM.no4 at h4
   have i1 : X.is c.b := Classical.byContradiction fun h => h4 (.inl h)
   have i2 : X.is c.s := Classical.byContradiction fun h => h4 (.inr (.inl h))
   have q1 : 1 ≤ c.q ∧ c.q ≤ 1000000 := Classical.byContradiction fun h => h1 (.inr h)
   exact ⟨i1, i2, by omega, fun h => h1 (.inl h), q1⟩
theorem par_pr {X : HM} {c : Ct} (h : X.prE c ≠ 0) : X.par c = X.prE c := by
 unfold HM.prE at h ⊢
 unfold HM.par
 by_cases h4 : X.no4 c
 ·rw [if_pos h4, if_pos h4]
 ·rw [if_neg h4] at h ⊢
  rw [if_neg h4]
  by_cases h1 : c.b = c.s ∨ ¬ (1 ≤ c.q ∧ c.q ≤ 1000000)
  ·rw [if_pos h1, if_pos (h1.elim (fun h => .inl h) fun h => .inr (.inl h))]
  ·rw [if_neg h1] at h
   exact absurd rfl h
theorem par_rest {X : HM} {c : Ct} (h : X.prE c = 0) : X.par c = if ¬ (1 ≤ c.p ∧ c.p ≤ 1000000) then 1 else if (X.acct c.b).out = true ∨ (X.acct c.s).out = true then 5 else 0 := by
 obtain ⟨h1, h2, h3, h4, h5⟩ := prE_zero h
 have n4 : ¬ X.no4 c := fun h => h.elim (fun h => h h1) fun h => h.elim (fun h => h h2) fun h => by omega
 unfold HM.par
 rw [if_neg n4]
 by_cases hp : 1 ≤ c.p ∧ c.p ≤ 1000000
 ·rw [if_neg (fun h : c.bad => h.elim (fun h => h4 h) fun h => h.elim (fun h => h h5) fun h => h hp), if_neg (show ¬ ¬ (1 ≤ c.p ∧ c.p ≤ 1000000) from fun h => h hp)]
 ·rw [if_pos (show c.bad from .inr (.inr hp)), if_pos hp]
theorem acct_ne (X : HM) {i o : Int} (h : i ≠ o) (a : HA) : (X.setA i a).acct o = X.acct o := upd_ne _ _ (by omega)
theorem gDeliver_any (X : HM) (K : GK) (i o m q : Int) (R : List (Option Blk)) (j B : Nat) (H : List (Option Blk)) (w0 w : World) (hO : Own B w0 w H) (hK : GIn R X K) (hs : R.Sublist H) (hX : HB j X) (hj : j < 100) :
  Calls Try.prog 78 #[.agg (ghL X K).toArray, iv i, iv o, iv m, iv q] w fun e w' => ∃ v, e = .returned (.tuple #[v, iv (X.dvr ⟨i, o, m, q, 1⟩)]) ∧ ((X.dvr ⟨i, o, m, q, 1⟩ = 0 ∧ GNew B w0 w' v (X.deliver ⟨i, o, m, q, 1⟩) R H) ∨ (X.dvr ⟨i, o, m, q, 1⟩ ≠ 0 ∧ GSame B w0 w' v X K H)) := by
 have hg := hX.gg (by omega)
 have hmem := hX.mem
 have hmo := hX.mo
 have hmn := X.mn_eq hmo.1
 obtain ⟨ab0, ao, ea, ra⟩ := hK.av.at (by decide) (hO.sub hs) (by omega)
 have dP : X.par ⟨i, o, m, q, 1⟩ ≠ 0 → X.dvr ⟨i, o, m, q, 1⟩ = X.par ⟨i, o, m, q, 1⟩ := fun h => if_pos h
 refine calls_of_run (F := [(0, _), (1, _), (2, _), (3, _), (4, _)]) Try.func78 rfl Try.ntmps78 rfl rfl <| run_seq <| run_region <| rl_ow rfl (ow_box _ rfl rfl rfl rfl rfl hO) ?_
 rintro _ w1 ⟨b5, rfl, hO2, hs3⟩
 refine rl_ow rfl (ow_alloc _ rfl rfl rfl zero_34 rfl hO2) ?_
 rintro _ w4 ⟨b10, rfl, hO5, hs6⟩
 refine rl_v rfl rfl rfl (ov_assign rfl rfl) <| rl_nil <| run_seq <| run_seq <| run_region <| rl_v rfl rfl rfl (ov_loadW rfl Try.underlying34 rfl (by kernel_rfl) rfl hO5 1 rfl) ?_
 refine rl_v rfl rfl rfl (ov_move rfl rfl) <| rl_v rfl rfl rfl (ov_move rfl rfl) <| rl_v rfl rfl rfl (ov_move rfl rfl) <| rl_v rfl rfl rfl (ov_move rfl rfl) ?_
 refine rl_call callable_120 rfl rfl rfl rfl rfl rfl (gPair_any X K ⟨i, o, m, q, 1⟩ B _ w0 w4 hO5 hmo.1) (fun e7 w8 hp9 => ?_)
 obtain ⟨rfl, hO1⟩ := hp9
 refine ⟨_, rfl, ?_⟩
 refine rl_v rfl rfl rfl (ov_assign rfl rfl) <| rl_nil <| run_seq <| run_region <| rl_v rfl rfl rfl (ov_move rfl rfl) <| rl_v rfl rfl rfl (ov_neq rfl rfl rfl) <| rl_nil ?_
 first | refine run_cond_dec rfl (fun c1 => ?_) (fun c1 => ?_) | refine run_cond rfl (fun c1 => ?_) (fun c1 => ?_)
 ·have e1 : X.dvr ⟨i, o, m, q, 1⟩ = X.prE ⟨i, o, m, q, 1⟩ := (dP (by rw [par_pr c1]; exact c1)).trans (par_pr c1)
  refine run_seq <| run_region <| rl_v rfl rfl rfl (ov_loadW rfl Try.underlying34 rfl (by kernel_rfl) rfl hO1 1 rfl) ?_
  refine rl_v rfl rfl rfl (ov_move rfl rfl) <| rl_ow rfl (ow_storeW rfl rfl (by kernel_rfl) hO1 0 rfl rfl (by rfl) rfl (by rfl)) ?_
  rintro _ w10 ⟨rfl, hO11, hs12⟩
  refine rl_v rfl rfl rfl (ov_assign rfl rfl) <| rl_nil <| run_ret Try.func78 (resW2 Try.results78 rfl rfl Try.underlying34 rfl (by kernel_rfl) hO11 0 rfl) ?_
  exact ⟨_, by rw [e1], .inr ⟨by rw [e1]; exact c1, rfl, hO11.tail.tail⟩⟩
 ·have c0 : X.prE ⟨i, o, m, q, 1⟩ = 0 := by omega
  obtain ⟨hPb, hPs, hPm, hne, hPq⟩ := prE_zero c0
  replace hPb : 1 ≤ i ∧ i ≤ X.mem := hPb
  replace hPs : 1 ≤ o ∧ o ≤ X.mem := hPs
  replace hPm : 0 ≤ m ∧ m < X.mo := hPm
  replace hne : i ≠ o := hne
  replace hPq : 1 ≤ q ∧ q ≤ 1000000 := hPq
  have hpr : X.par ⟨i, o, m, q, 1⟩ = if (X.acct i).out = true ∨ (X.acct o).out = true then 5 else 0 := (par_rest c0).trans (if_neg (fun h => h ⟨Int.le_refl 1, (by show (1 : Int) ≤ 1000000; decide)⟩))
  refine run_skip <| run_seq <| run_seq <| run_region <| rl_v rfl rfl rfl (ov_fieldS rfl Try.underlying34 rfl (fo := 7) rfl (by kernel_rfl) rfl) ?_
  refine rl_v rfl rfl rfl (ov_load rfl Try.underlying31 rfl rfl (by exact hO1.cellL 1 rfl (off := 7) rfl)) ?_
  refine rl_v rfl rfl rfl (ov_move rfl rfl) <| rl_v rfl rfl rfl (ov_sub rfl rfl rfl (by omega)) ?_
  refine rl_v rfl rfl rfl (ov_index rfl Try.underlying31 (by kernel_rfl) (s := 4) rfl rfl ⟨by omega, by omega⟩ (by exact (id ea))) ?_
  refine rl_v rfl rfl rfl (ov_fieldS rfl Try.underlying49 rfl (fo := 3) rfl (by kernel_rfl) rfl) ?_
  refine rl_v rfl rfl rfl (ov_load rfl Try.underlying4 rfl rfl (by exact (show _ = some (.bool (X.acct i).out) from ra (hO1.sub (.cons _ (.cons _ hs))) (i - 1) (by omega) (by omega) 3 (by decide)))) ?_
  refine rl_v rfl rfl rfl (ov_move rfl rfl) ?_
  first | refine rl_split_dec 30 rfl (fun o1 => ?_) (fun o1 => ?_) | refine rl_split 30 rfl (fun o1 => ?_) (fun o1 => ?_)
  ·refine rl_gskip rfl rfl rfl rfl rfl rfl <| rl_gskip rfl rfl rfl rfl rfl rfl <| rl_gskip rfl rfl rfl rfl rfl rfl <| rl_gskip rfl rfl rfl rfl rfl rfl <| rl_gskip rfl rfl rfl rfl rfl rfl <| rl_gskip rfl rfl rfl rfl rfl rfl <| rl_gskip rfl rfl rfl rfl rfl rfl <| rl_v rfl rfl rfl (ov_pick_t rfl rfl rfl) <| rl_nil <| run_cond_t rfl ?_
   have e5 : X.dvr ⟨i, o, m, q, 1⟩ = 5 := by rw [dP (by rw [hpr, if_pos (.inl o1)]; decide), hpr, if_pos (.inl o1)]
   refine run_seq <| run_region <| rl_v rfl rfl rfl (ov_loadW rfl Try.underlying34 rfl (by kernel_rfl) rfl hO1 1 rfl) ?_
   refine rl_ow rfl (ow_storeW rfl rfl (by kernel_rfl) hO1 0 rfl rfl (by rfl) rfl (by rfl)) ?_
   rintro _ w14 ⟨rfl, hO15, hs16⟩
   refine rl_v rfl rfl rfl (ov_assign rfl rfl) <| rl_nil <| run_ret Try.func78 (resW2 Try.results78 rfl rfl Try.underlying34 rfl (by kernel_rfl) hO15 0 rfl) ?_
   exact ⟨_, by rw [e5], .inr ⟨by rw [e5]; decide, rfl, hO15.tail.tail⟩⟩
  ·refine rl_gv rfl rfl rfl rfl rfl (ov_fieldS rfl Try.underlying34 rfl (fo := 7) rfl (by kernel_rfl) rfl) ?_
   refine rl_gv rfl rfl rfl rfl rfl (ov_load rfl Try.underlying31 rfl rfl (by exact hO1.cellL 1 rfl (off := 7) rfl)) ?_
   refine rl_gv rfl rfl rfl rfl rfl (ov_move rfl rfl) <| rl_gv rfl rfl rfl rfl rfl (ov_sub rfl rfl rfl (by omega)) ?_
   refine rl_gv rfl rfl rfl rfl rfl (ov_index rfl Try.underlying31 (by kernel_rfl) (s := 4) rfl rfl ⟨by omega, by omega⟩ (by exact (id ea))) ?_
   refine rl_gv rfl rfl rfl rfl rfl (ov_fieldS rfl Try.underlying49 rfl (fo := 3) rfl (by kernel_rfl) rfl) ?_
   refine rl_gv rfl rfl rfl rfl rfl (ov_load rfl Try.underlying4 rfl rfl (by exact (show _ = some (.bool (X.acct o).out) from ra (hO1.sub (.cons _ (.cons _ hs))) (o - 1) (by omega) (by omega) 3 (by decide)))) ?_
   refine rl_v rfl rfl rfl (ov_pick_f rfl rfl rfl) <| rl_nil ?_
   first | refine run_cond_dec rfl (fun o2 => ?_) (fun o2 => ?_) | refine run_cond rfl (fun o2 => ?_) (fun o2 => ?_)
   ·have e5 : X.dvr ⟨i, o, m, q, 1⟩ = 5 := by rw [dP (by rw [hpr, if_pos (.inr o2)]; decide), hpr, if_pos (.inr o2)]
    refine run_seq <| run_region <| rl_v rfl rfl rfl (ov_loadW rfl Try.underlying34 rfl (by kernel_rfl) rfl hO1 1 rfl) ?_
    refine rl_ow rfl (ow_storeW rfl rfl (by kernel_rfl) hO1 0 rfl rfl (by rfl) rfl (by rfl)) ?_
    rintro _ w17 ⟨rfl, hO18, hs19⟩
    refine rl_v rfl rfl rfl (ov_assign rfl rfl) <| rl_nil <| run_ret Try.func78 (resW2 Try.results78 rfl rfl Try.underlying34 rfl (by kernel_rfl) hO18 0 rfl) ?_
    exact ⟨_, by rw [e5], .inr ⟨by rw [e5]; decide, rfl, hO18.tail.tail⟩⟩
   ·have hp0 : X.par ⟨i, o, m, q, 1⟩ = 0 := by rw [hpr, if_neg (by rw [o1, o2]; decide)]
    have ed : X.dvr ⟨i, o, m, q, 1⟩ = if (X.acct i).pos m < q ∨ -q < (X.acct o).pos m then 9 else 0 := if_neg (by rw [hp0]; decide)
    have hpb : ((X.acct i).pos m).natAbs ≤ 100 * j := hX.pos (i - 1) (by omega) (by omega) m hPm.1 (by omega)
    have hps : ((X.acct o).pos m).natAbs ≤ 100 * j := hX.pos (o - 1) (by omega) (by omega) m hPm.1 (by omega)
    obtain ⟨qb1, qo1, eq1, rq1⟩ := (hK.qv (i - 1) (by omega) (by omega)).at (hO1.sub (.cons _ (.cons _ hs))) (by omega)
    obtain ⟨qb2, qo2, eq2, rq2⟩ := (hK.qv (o - 1) (by omega) (by omega)).at (hO1.sub (.cons _ (.cons _ hs))) (by omega)
    refine run_skip <| run_seq <| run_seq <| run_region <| rl_v rfl rfl rfl (ov_fieldS rfl Try.underlying34 rfl (fo := 7) rfl (by kernel_rfl) rfl) ?_
    refine rl_v rfl rfl rfl (ov_load rfl Try.underlying31 rfl rfl (by exact hO1.cellL 1 rfl (off := 7) rfl)) ?_
    refine rl_v rfl rfl rfl (ov_move rfl rfl) <| rl_v rfl rfl rfl (ov_sub rfl rfl rfl (by omega)) ?_
    refine rl_v rfl rfl rfl (ov_index rfl Try.underlying31 (by kernel_rfl) (s := 4) rfl rfl ⟨by omega, by omega⟩ (by exact (id ea))) ?_
    refine rl_v rfl rfl rfl (ov_fieldS rfl Try.underlying49 rfl (fo := 2) rfl (by kernel_rfl) rfl) ?_
    refine rl_v rfl rfl rfl (ov_load rfl Try.underlying22 rfl rfl (by exact (show _ = some (.slice (K.qa (i - 1)) X.mn (K.qc (i - 1))) from ra (hO1.sub (.cons _ (.cons _ hs))) (i - 1) (by omega) (by omega) 2 (by decide)))) ?_
    refine rl_v rfl rfl rfl (ov_move rfl rfl) <| rl_v rfl rfl rfl (ov_index1 rfl Try.underlying22 (by kernel_rfl) rfl rfl ⟨by omega, by omega⟩ (by exact (id eq1))) ?_
    refine rl_v rfl rfl rfl (ov_load rfl Try.underlying2 rfl rfl (by exact (show _ = some (iv ((X.acct i).pos m)) from rq1 (hO1.sub (.cons _ (.cons _ hs))) m hPm.1 (by omega)))) ?_
    refine rl_v rfl rfl rfl (ov_move rfl rfl) <| rl_v rfl rfl rfl (ov_lss rfl rfl rfl) <| rl_v rfl rfl rfl (ov_move rfl rfl) ?_
    first | refine rl_split_dec 52 rfl (fun d1 => ?_) (fun d1 => ?_) | refine rl_split 52 rfl (fun d1 => ?_) (fun d1 => ?_)
    ·refine rl_gskip rfl rfl rfl rfl rfl rfl <| rl_gskip rfl rfl rfl rfl rfl rfl <| rl_gskip rfl rfl rfl rfl rfl rfl <| rl_gskip rfl rfl rfl rfl rfl rfl <| rl_gskip rfl rfl rfl rfl rfl rfl <| rl_gskip rfl rfl rfl rfl rfl rfl <| rl_gskip rfl rfl rfl rfl rfl rfl <| rl_gskip rfl rfl rfl rfl rfl rfl <| rl_gskip rfl rfl rfl rfl rfl rfl <| rl_gskip rfl rfl rfl rfl rfl rfl <| rl_gskip rfl rfl rfl rfl rfl rfl <| rl_gskip rfl rfl rfl rfl rfl rfl <| rl_gskip rfl rfl rfl rfl rfl rfl <| rl_v rfl rfl rfl (ov_pick_t rfl rfl rfl) <| rl_nil <| run_cond_t rfl ?_
     have e9 : X.dvr ⟨i, o, m, q, 1⟩ = 9 := ed.trans (if_pos (.inl d1))
     refine run_seq <| run_region <| rl_v rfl rfl rfl (ov_loadW rfl Try.underlying34 rfl (by kernel_rfl) rfl hO1 1 rfl) ?_
     refine rl_ow rfl (ow_storeW rfl rfl (by kernel_rfl) hO1 0 rfl rfl (by rfl) rfl (by rfl)) ?_
     rintro _ w21 ⟨rfl, hO22, hs23⟩
     refine rl_v rfl rfl rfl (ov_assign rfl rfl) <| rl_nil <| run_ret Try.func78 (resW2 Try.results78 rfl rfl Try.underlying34 rfl (by kernel_rfl) hO22 0 rfl) ?_
     exact ⟨_, by rw [e9], .inr ⟨by rw [e9]; decide, rfl, hO22.tail.tail⟩⟩
    ·refine rl_gv rfl rfl rfl rfl rfl (ov_fieldS rfl Try.underlying34 rfl (fo := 7) rfl (by kernel_rfl) rfl) ?_
     refine rl_gv rfl rfl rfl rfl rfl (ov_load rfl Try.underlying31 rfl rfl (by exact hO1.cellL 1 rfl (off := 7) rfl)) ?_
     refine rl_gv rfl rfl rfl rfl rfl (ov_move rfl rfl) <| rl_gv rfl rfl rfl rfl rfl (ov_sub rfl rfl rfl (by omega)) ?_
     refine rl_gv rfl rfl rfl rfl rfl (ov_index rfl Try.underlying31 (by kernel_rfl) (s := 4) rfl rfl ⟨by omega, by omega⟩ (by exact (id ea))) ?_
     refine rl_gv rfl rfl rfl rfl rfl (ov_fieldS rfl Try.underlying49 rfl (fo := 2) rfl (by kernel_rfl) rfl) ?_
     refine rl_gv rfl rfl rfl rfl rfl (ov_load rfl Try.underlying22 rfl rfl (by exact (show _ = some (.slice (K.qa (o - 1)) X.mn (K.qc (o - 1))) from ra (hO1.sub (.cons _ (.cons _ hs))) (o - 1) (by omega) (by omega) 2 (by decide)))) ?_
     refine rl_gv rfl rfl rfl rfl rfl (ov_move rfl rfl) <| rl_gv rfl rfl rfl rfl rfl (ov_index1 rfl Try.underlying22 (by kernel_rfl) rfl rfl ⟨by omega, by omega⟩ (by exact (id eq2))) ?_
     refine rl_gv rfl rfl rfl rfl rfl (ov_load rfl Try.underlying2 rfl rfl (by exact (show _ = some (iv ((X.acct o).pos m)) from rq2 (hO1.sub (.cons _ (.cons _ hs))) m hPm.1 (by omega)))) ?_
     refine rl_gv rfl rfl rfl rfl rfl (ov_move rfl rfl) <| rl_gv rfl rfl rfl rfl rfl (ov_neg rfl rfl (by omega)) ?_
     refine rl_gv rfl rfl rfl rfl rfl (ov_gtr rfl rfl rfl) <| rl_v rfl rfl rfl (ov_pick_f rfl rfl rfl) <| rl_nil ?_
     first | refine run_cond_dec rfl (fun d2 => ?_) (fun d2 => ?_) | refine run_cond rfl (fun d2 => ?_) (fun d2 => ?_)
     ·have e9 : X.dvr ⟨i, o, m, q, 1⟩ = 9 := ed.trans (if_pos (.inr d2))
      refine run_seq <| run_region <| rl_v rfl rfl rfl (ov_loadW rfl Try.underlying34 rfl (by kernel_rfl) rfl hO1 1 rfl) ?_
      refine rl_ow rfl (ow_storeW rfl rfl (by kernel_rfl) hO1 0 rfl rfl (by rfl) rfl (by rfl)) ?_
      rintro _ w24 ⟨rfl, hO25, hs26⟩
      refine rl_v rfl rfl rfl (ov_assign rfl rfl) <| rl_nil <| run_ret Try.func78 (resW2 Try.results78 rfl rfl Try.underlying34 rfl (by kernel_rfl) hO25 0 rfl) ?_
      exact ⟨_, by rw [e9], .inr ⟨by rw [e9]; decide, rfl, hO25.tail.tail⟩⟩
     ·have e0 : X.dvr ⟨i, o, m, q, 1⟩ = 0 := ed.trans (if_neg fun h => h.elim d1 d2)
      have ex : X.deliver ⟨i, o, m, q, 1⟩ = (X.setA i (X.dvB ⟨i, o, m, q, 1⟩)).setA o (X.dvS ⟨i, o, m, q, 1⟩) := if_pos e0
      refine run_skip <| run_seq <| run_region <| rl_v rfl rfl rfl (ov_loadW rfl Try.underlying34 rfl (by kernel_rfl) rfl hO1 1 rfl) ?_
      refine rl_call callable_118 rfl rfl rfl rfl rfl rfl (gFork_any X K R B _ w0 w8 hO1 hK (.cons _ (.cons _ hs)) hg) (fun e27 w28 hp29 => ?_)
      obtain ⟨L, pb, ab, cb, qb, rfl, hL, hO2⟩ := hp29
      refine ⟨_, rfl, ?_⟩
      refine rl_v rfl rfl rfl (ov_move rfl rfl) <| rl_v rfl rfl rfl (ov_move rfl rfl) <| rl_v rfl rfl rfl (ov_move rfl rfl) <| rl_v rfl rfl rfl (ov_neg rfl rfl (by omega)) ?_
      refine rl_call callable_121 rfl rfl rfl rfl rfl rfl (gHold_any X L i m (-q) R pb ab cb qb B _ w0 w28 hO2 hL hPb (by omega) hmo hPm (by omega)) (fun e30 w31 hp32 => ?_)
      obtain ⟨rfl, qb5, hL2, hO3⟩ := hp32
      refine ⟨_, rfl, ?_⟩
      have hao : (X.setA i { X.acct i with pos := upd (X.acct i).pos m ((X.acct i).pos m + -q) }).acct o = X.acct o := acct_ne X hne _
      refine rl_v rfl rfl rfl (ov_move rfl rfl) <| rl_v rfl rfl rfl (ov_move rfl rfl) <| rl_v rfl rfl rfl (ov_move rfl rfl) ?_
      refine rl_call callable_121 rfl rfl rfl rfl rfl rfl (gHold_any (X.setA i { X.acct i with pos := upd (X.acct i).pos m ((X.acct i).pos m + -q) }) L o m q R pb ab cb qb5 B _ w0 w31 hO3 hL2 hPs (by show X.mem ≤ 64; omega) hmo hPm (by rw [hao]; omega)) (fun e33 w34 hp35 => ?_)
      obtain ⟨rfl, qb6, hL3, hO4⟩ := hp35
      refine ⟨_, rfl, ?_⟩
      rw [hao] at hL3
      have hO5 : Own B w0 w34 ((pb :: ab :: cb :: (List.range X.mem).map qb6) ++ (_ :: _ :: H)) := hO4
      have hO6 := hO5.perm List.perm_middle
      refine rl_ow rfl (ow_storeW rfl rfl (by kernel_rfl) hO6 0 rfl rfl (by rfl) rfl (by rfl)) ?_
      rintro _ w36 ⟨rfl, hO37, hs38⟩
      have hO8 := hO37.tail.sub (List.Sublist.append_left (.cons _ (.refl H)) (pb :: ab :: cb :: (List.range X.mem).map qb6))
      refine rl_v rfl rfl rfl (ov_assign rfl rfl) <| rl_nil <| run_ret Try.func78 (resW2 Try.results78 rfl rfl Try.underlying34 rfl (by kernel_rfl) hO37 0 rfl) ?_
      exact ⟨_, by rw [e0], .inl ⟨e0, L, pb, ab, cb, qb6, by rw [ex]; rfl, by rw [ex]; exact hL3, by rw [ex]; exact hO8⟩⟩
end Go.Proofs.Ytfbbagnpdfafjaa
