import Derived.Test.YtlldeifbfpmbaaaGreatFiC
import Derived.Test.YtlldeifbfpmbaaaGreatFbJ
set_option maxRecDepth 100000
namespace Go.Proofs.YtlldeifbfpmbaaaGreat
open Go.RowKit Go.Proofs Go.MapKept
theorem ovI {P : Program} {N : Nat} {o : Oper} {F : Fr} {w : World} {a b : Int} (h : OpV P N o F w (iv a)) (e : a = b) : OpV P N o F w (iv b) := e ▸ h
theorem stable5_any (tb : Nat) (la : Option Addr) (ln lc : Nat) (f : Fair) (l : Int → Int) (w : World) (hV : Valid5 f f.m) (hP : PT w.heap.size w tb f) (hln : ln ≤ 1000000) (hl : IAt w.heap.size w la ln (fun i => iv (l i))) :
  Calls Tryz.prog 56 #[ptr tb, .slice la ln lc] w fun e w' => (∃ b, e = .returned (.bool b) ∧ (b = true ↔ ln = f.n ∧ f.Stab l)) ∧ Below w.heap.size w w' := by
 refine calls_of_run (F := [(0, _), (1, _)]) Tryz.func56 rfl Tryz.ntmps56 rfl rfl ?_
 have hO0 := Own.init w
 refine run_seq <| run_region <| rl_v rfl rfl rfl (ov_assign rfl rfl) <| rl_nil <| run_seq <| run_region <| rl_v rfl rfl rfl (ov_move rfl rfl) <| rl_v rfl rfl rfl (ov_move rfl rfl) ?_
 refine rl_call callable_53 rfl rfl rfl rfl rfl rfl (possible5_any tb la ln lc f l _ hV (hO0.pt hP) hln (hO0.iatF hl)) (fun e1 w2 hp3 => ?_)
 obtain ⟨⟨r, rfl, hr⟩, hb1⟩ := hp3
 refine ⟨_, rfl, ?_⟩
 have hO4 := hO0.past hb1
 refine rl_v rfl rfl rfl (ov_move rfl rfl) ?_
 first | refine rl_split_dec 8 rfl (fun q1 => ?_) (fun q1 => ?_) | refine rl_split 8 rfl (fun q1 => ?_) (fun q1 => ?_)
 ·refine rl_gv rfl rfl rfl rfl rfl (ov_move rfl rfl) <| rl_gv rfl rfl rfl rfl rfl (ov_move rfl rfl) ?_
  have hp := hr.1 q1
  obtain rfl : ln = f.n := hp.1
  refine rl_gcall callable_54 rfl rfl rfl rfl rfl rfl rfl rfl (blocking5_any tb la lc f l _ hV (hO4.pt hP) (hO4.iatF hl) hp.2) (fun e6 w7 hp8 => ?_)
  obtain ⟨v, c, rfl, hrv, hO1⟩ := hp8
  refine ⟨_, rfl, ?_⟩
  have hO9 := hO4.join hO1
  obtain ⟨va, vc, rfl⟩ := Row.val hrv
  have hnil := blkTo_nil (f := f) (l := l) f.n
  refine rl_gv rfl rfl rfl rfl rfl (ov_len rfl Tryz.underlying41 rfl) <| rl_gv rfl rfl rfl rfl rfl (ov_eql rfl rfl rfl) <| rl_v rfl rfl rfl (ov_pick_t rfl rfl rfl) <| rl_v rfl rfl rfl (ov_assign rfl rfl) <| rl_nil <| run_ret Tryz.func56 (res1 Tryz.results56 rfl) ?_
  exact ⟨⟨_, rfl, by rw [decide_eq_true_iff]; exact ⟨fun h => ⟨rfl, hp.2, fun g b g0 g1 b0 b1 => hnil.1 (List.length_eq_zero_iff.1 (by omega)) g b g0 g1 b0 b1⟩, fun h => by rw [hnil.2 fun i c i0 i1 c0 c1 => h.2.none i c i0 i1 c0 c1]; rfl⟩⟩, hO9.tail.below⟩
 ·refine rl_gskip rfl rfl rfl rfl rfl rfl <| rl_gskip rfl rfl rfl rfl rfl rfl <| rl_gskip rfl rfl rfl rfl rfl rfl <| rl_gskip rfl rfl rfl rfl rfl rfl <| rl_gskip rfl rfl rfl rfl rfl rfl <| rl_v rfl rfl rfl (ov_pick_f rfl rfl rfl) <| rl_v rfl rfl rfl (ov_assign rfl rfl) <| rl_nil <| run_ret Tryz.func56 (res1 Tryz.results56 rfl) ?_
  exact ⟨⟨false, rfl, ⟨fun h => Bool.noConfusion h, fun h => by rw [hr.2 ⟨h.1, h.2.poss⟩] at q1; exact Bool.noConfusion q1⟩⟩, hO4.below⟩
def rkA (f : Fair) (l : Int → Int) (k : Int) : Int := sm (fun g => if 0 ≤ l g then f.rg g (l g) else 0) k
def rkB (f : Fair) (l : Int → Int) (k : Int) : Int := sm (fun g => if 0 ≤ l g then f.rb (l g) g else 0) k
theorem rkA_bd {f : Fair} {l : Int → Int} (hV : Valid5 f f.m) {k : Int} (k0 : 0 ≤ k) (k1 : k ≤ f.n) : 0 ≤ rkA f l k ∧ rkA f l k ≤ k * 64 :=
 ⟨sm_nonneg fun g _ _ => by have := Fair.rg_nonneg f g (l g); split <;> omega, sm_bound 64 k0 fun g g0 g1 => by have h := (rk_rng (f.ge g) (l g) (f.gl g)).2; have h2 := hV.sm.gl g g0 (by omega); unfold Fair.rg; split <;> omega⟩
theorem rkB_bd {f : Fair} {l : Int → Int} (hV : Valid5 f f.m) (hp : f.Poss l) {k : Int} (k0 : 0 ≤ k) (k1 : k ≤ f.n) : 0 ≤ rkB f l k ∧ rkB f l k ≤ k * 64 :=
 ⟨sm_nonneg fun g _ _ => by have := Fair.rb_nonneg f (l g) g; split <;> omega, sm_bound 64 k0 fun g g0 g1 => by
  have h := (rk_rng (f.be (l g)) g (f.bl (l g))).2
  have h3 := hp.at_ g g0 (by omega)
  unfold Fair.rb
  split
  ·have h2 := hV.sm.bl (l g) (by omega) (by omega)
   omega
  ·omega⟩
noncomputable def jdE (f : Fair) (nq ln : Nat) (l : Int → Int) : Int :=
 open Classical in
 if chkF f nq ≠ 0 then chkF f nq else if ln ≠ f.n then 7 else if ¬ f.Poss l then 4 else 0
theorem jdE_0 {f : Fair} {nq ln : Nat} {l : Int → Int} : jdE f nq ln l = 0 ↔ Valid5 f nq ∧ ln = f.n ∧ f.Poss l := by
 unfold jdE
 rw [← chkF_0]
 constructor
 ·intro h
  split at h
  ·exact absurd h ‹_›
  ·split at h
   ·cases h
   ·split at h
    ·cases h
    ·exact ⟨Classical.not_not.1 ‹_›, Classical.not_not.1 ‹_›, Classical.not_not.1 ‹_›⟩
 ·rintro ⟨h1, h2, h3⟩
  rw [if_neg (fun h => h h1), if_neg (fun h => h h2), if_neg (fun h => h h3)]
theorem valid5_iff (ga ba qa : Option Addr) (nq : Nat) (f : Fair) (w : World) (_ : Lg5 f nq) (hF : FAg w.heap.size w ga ba qa f nq) : chkF f nq = 0 → Valid5 f f.m ∧ FAg w.heap.size w ga ba qa f f.m ∧ nq = f.m := fun h => by
 have hV := chkF_0.1 h
 have e := hV.nq
 rw [e] at hV hF
 exact ⟨hV, hF, e⟩
section
variable (ga ba qa la : Option Addr) (gc bc qc nq ln lc : Nat) (f : Fair) (l : Int → Int) (w : World) (hlg : Lg5 f nq) (hF : FAg w.heap.size w ga ba qa f nq) (hln : ln ≤ 1000000) (hl : IAt w.heap.size w la ln (fun i => iv (l i)))
include hlg hF
include hln hl
set_option maxHeartbeats 2000000 in
theorem judged5_any :
  Calls Tryz.prog 52 #[.agg #[.slice ga f.n gc, .slice ba f.m bc, .slice qa nq qc], .slice la ln lc, .func (.func 53) #[] #[]] w fun e w' => ∃ tv H, e = .returned (.tuple #[tv, iv (jdE f nq ln l)]) ∧ Own w.heap.size w w' H ∧ (jdE f nq ln l = 0 → ∃ tb, tv = ptr tb ∧ PT w'.heap.size w' tb f) := by
 refine calls_of_run (F := [(0, _), (1, _), (2, _)]) Tryz.func52 rfl Tryz.ntmps52 rfl rfl ?_
 have hO0 := Own.init w
 refine run_seq <| run_region <| rl_ow rfl (ow_box _ rfl rfl rfl rfl rfl hO0) ?_
 rintro _ w1 ⟨b1, rfl, hO2, hs3⟩
 refine rl_v rfl rfl rfl (ov_assign rfl rfl) <| rl_v rfl rfl rfl (ov_assign rfl rfl) <| rl_nil <| run_seq <| run_seq <| run_region <| rl_v rfl rfl rfl (ov_loadW rfl Tryz.underlying27 rfl (by kernel_rfl) rfl hO2 0 rfl) ?_
 refine rl_call callable_23 rfl rfl rfl rfl rfl rfl (check5_any ga ba qa gc bc qc nq f _ hlg.n hlg.m hlg.q hlg.gl hlg.bl (hO2.fag hF)) (fun e4 w5 hp6 => ?_)
 obtain ⟨rfl, hbl⟩ := hp6
 refine ⟨_, rfl, ?_⟩
 have hO7 := hO2.past hbl
 refine rl_v rfl rfl rfl (ov_assign rfl rfl) <| rl_nil <| run_seq <| run_region <| rl_v rfl rfl rfl (ov_move rfl rfl) <| rl_v rfl rfl rfl (ov_neq rfl rfl rfl) <| rl_nil ?_
 first | refine run_cond_dec rfl (fun h1 => ?_) (fun h1 => ?_) | refine run_cond rfl (fun h1 => ?_) (fun h1 => ?_)
 ·have e1 : jdE f nq ln l = chkF f nq := if_pos h1
  refine run_seq <| run_region <| rl_v rfl rfl rfl (ov_move rfl rfl) <| rl_v rfl rfl rfl (ov_assign rfl rfl) <| rl_v rfl rfl rfl (ov_assign rfl rfl) <| rl_nil <| run_ret Tryz.func52 (res2 Tryz.results52 rfl rfl) ?_
  exact ⟨.pointer none, [], by rw [e1], hO7.tail, fun h => absurd (jdE_0.1 h).1 fun hV => h1 (chkF_0.2 hV)⟩
 ·obtain ⟨hV, hF2, hnq⟩ := valid5_iff ga ba qa nq f w hlg hF (Classical.not_not.1 h1)
  refine run_skip <| run_seq <| run_seq <| run_region <| rl_v rfl rfl rfl (ov_move rfl rfl) <| rl_v rfl rfl rfl (ov_len rfl Tryz.underlying23 rfl) <| rl_v rfl rfl rfl (ov_fieldS rfl Tryz.underlying27 rfl (fo := 0) rfl (by kernel_rfl) rfl) ?_
  refine rl_v rfl rfl rfl (ov_load rfl Tryz.underlying22 rfl rfl (by exact hO7.cellL 0 rfl (off := 0) rfl)) ?_
  refine rl_v rfl rfl rfl (ov_len rfl Tryz.underlying22 rfl) <| rl_v rfl rfl rfl (ov_neq rfl rfl rfl) <| rl_nil ?_
  first | refine run_cond_dec rfl (fun h2 => ?_) (fun h2 => ?_) | refine run_cond rfl (fun h2 => ?_) (fun h2 => ?_)
  ·have e1 : jdE f nq ln l = 7 := by unfold jdE; rw [if_neg h1, if_pos (by omega)]
   refine run_seq <| run_region <| rl_v rfl rfl rfl (ov_assign rfl rfl) <| rl_v rfl rfl rfl (ov_assign rfl rfl) <| rl_nil <| run_ret Tryz.func52 (res2 Tryz.results52 rfl rfl) ?_
   exact ⟨.pointer none, [], by rw [e1], hO7.tail, fun h => by rw [e1] at h; cases h⟩
  ·subst hnq
   refine run_skip <| run_seq <| run_region <| rl_v rfl rfl rfl (ov_loadW rfl Tryz.underlying27 rfl (by kernel_rfl) rfl hO7 0 rfl) ?_
   refine rl_call callable_40 rfl rfl rfl rfl rfl rfl (newTables_any ga ba qa gc bc qc f _ hV.sm ((hO7.fag hF2).fat rfl)) (fun e8 w9 hp10 => ?_)
   obtain ⟨tb, H1, rfl, hO1, hP⟩ := hp10
   refine ⟨_, rfl, ?_⟩
   have hO11 := hO7.join hO1
   refine rl_v rfl rfl rfl (ov_assign rfl rfl) <| rl_nil <| run_seq <| run_seq <| run_region <| rl_v rfl rfl rfl (ov_move rfl rfl) <| rl_v rfl rfl rfl (ov_move rfl rfl) <| rl_v rfl rfl rfl (ov_move rfl rfl) ?_
   refine rl_call callable_53 rfl rfl rfl rfl rfl rfl (possible5_any tb la ln lc f l _ hV hP hln (hO11.iatF hl)) (fun e12 w13 hp14 => ?_)
   obtain ⟨⟨r, rfl, hr⟩, hb1⟩ := hp14
   refine ⟨_, rfl, ?_⟩
   have hP2 := (hP.below hb1).mono hb1.size
   have hO15 := hO11.past hb1
   refine rl_v rfl rfl rfl (ov_not rfl rfl) <| rl_nil ?_
   first | refine run_cond_dec rfl (fun h3 => ?_) (fun h3 => ?_) | refine run_cond rfl (fun h3 => ?_) (fun h3 => ?_)
   ·have e1 : jdE f f.m ln l = 4 := by
     unfold jdE
     rw [if_neg h1, if_neg (by omega), if_pos (fun hp => by rw [hr.2 ⟨by omega, hp⟩] at h3; cases h3)]
    refine run_seq <| run_region <| rl_v rfl rfl rfl (ov_assign rfl rfl) <| rl_v rfl rfl rfl (ov_assign rfl rfl) <| rl_nil <| run_ret Tryz.func52 (res2 Tryz.results52 rfl rfl) ?_
    exact ⟨.pointer none, [], by rw [e1], hO15.none_, fun h => by rw [e1] at h; cases h⟩
   ·have hr1 : r = true := by cases r; exact Bool.noConfusion h3; rfl
    have e1 : jdE f f.m ln l = 0 := jdE_0.2 ⟨chkF_0.1 (Classical.not_not.1 h1), by omega, (hr.1 hr1).2⟩
    refine run_skip <| run_seq <| run_region <| rl_v rfl rfl rfl (ov_move rfl rfl) <| rl_v rfl rfl rfl (ov_assign rfl rfl) <| rl_v rfl rfl rfl (ov_assign rfl rfl) <| rl_nil <| run_ret Tryz.func52 (res2 Tryz.results52 rfl rfl) ?_
    exact ⟨ptr tb, _, by rw [e1], hO15, fun _ => ⟨tb, rfl, hP2⟩⟩
noncomputable def blkR (f : Fair) (nq ln : Nat) (l : Int → Int) : List (Int × Int) := if jdE f nq ln l = 0 then blkTo f l f.n else []
set_option maxHeartbeats 2000000 in
theorem blocks5_any :
  Calls Tryz.prog 24 #[.agg #[.slice ga f.n gc, .slice ba f.m bc, .slice qa nq qc], .slice la ln lc] w fun e w' => ∃ v c, e = .returned (.tuple #[v, iv (jdE f nq ln l)]) ∧ SRow v 48 2 (blkR f nq ln l).length (prG (blkR f nq ln l)) c ∧ Own w.heap.size w w' [c] := by
 refine calls_of_run (F := [(0, _), (1, _)]) Tryz.func24 rfl Tryz.ntmps24 rfl rfl ?_
 have hO0 := Own.init w
 refine run_seq <| run_region <| rl_ow rfl (ow_box _ rfl rfl rfl rfl rfl hO0) ?_
 rintro _ w1 ⟨b1, rfl, hO2, hs3⟩
 refine rl_v rfl rfl rfl (ov_assign rfl rfl) <| rl_v rfl rfl rfl (ov_assign rfl rfl) <| rl_nil <| run_seq <| run_region <| rl_v rfl rfl rfl (ov_loadW rfl Tryz.underlying27 rfl (by kernel_rfl) rfl hO2 0 rfl) ?_
 refine rl_v rfl rfl rfl (ov_move rfl rfl) ?_
 refine rl_call callable_52 rfl rfl rfl rfl rfl rfl (judged5_any ga ba qa la gc bc qc nq ln lc f l _ hlg (hO2.fag hF) hln (hO2.iatF hl)) (fun e4 w5 hp6 => ?_)
 obtain ⟨tv, H1, rfl, hO1, hP⟩ := hp6
 refine ⟨_, rfl, ?_⟩
 have hO7 := hO2.join hO1
 refine rl_v rfl rfl rfl (ov_move rfl rfl) <| rl_v rfl rfl rfl (ov_extract rfl rfl (by rfl)) ?_
 refine rl_v rfl rfl rfl (ov_extract rfl rfl (by rfl)) ?_
 refine rl_v rfl rfl rfl (ov_assign rfl rfl) <| rl_v rfl rfl rfl (ov_assign rfl rfl) <| rl_nil <| run_seq <| run_seq <| run_region <| rl_v rfl rfl rfl (ov_move rfl rfl) <| rl_v rfl rfl rfl (ov_neq rfl rfl rfl) <| rl_nil ?_
 first | refine run_cond_dec rfl (fun h1 => ?_) (fun h1 => ?_) | refine run_cond rfl (fun h1 => ?_) (fun h1 => ?_)
 ·have e1 : blkR f nq ln l = [] := if_neg h1
  refine run_seq <| run_region <| rl_v rfl rfl rfl (ov_move rfl rfl) <| rl_v rfl rfl rfl (ov_assign rfl rfl) <| rl_v rfl rfl rfl (ov_assign rfl rfl) <| rl_nil <| run_ret Tryz.func24 (res2 Tryz.results24 rfl rfl) ?_
  exact ⟨.slice none 0 0, none, rfl, by rw [e1]; exact SRow.nil _ _ _, hO7.none_.nil_cons⟩
 ·have h0 : jdE f nq ln l = 0 := Classical.not_not.1 h1
  have e1 : blkR f nq ln l = blkTo f l f.n := if_pos h0
  obtain ⟨tb, rfl, hP1⟩ := hP h0
  obtain ⟨hVq, hlf, hp⟩ := jdE_0.1 h0
  obtain ⟨hV, hF2, hnq⟩ := valid5_iff ga ba qa nq f w hlg hF (chkF_0.2 hVq)
  obtain rfl : ln = f.n := hlf
  refine run_skip <| run_seq <| run_region <| rl_v rfl rfl rfl (ov_move rfl rfl) <| rl_v rfl rfl rfl (ov_move rfl rfl) ?_
  refine rl_call callable_54 rfl rfl rfl rfl rfl rfl (blocking5_any tb la lc f l _ hV hP1 (hO7.iatF hl) hp) (fun e8 w9 hp10 => ?_)
  obtain ⟨v, c, rfl, hrv, hO2⟩ := hp10
  refine ⟨_, rfl, ?_⟩
  have hO11 := hO7.join hO2
  refine rl_v rfl rfl rfl (ov_assign rfl rfl) <| rl_v rfl rfl rfl (ov_assign rfl rfl) <| rl_nil <| run_ret Tryz.func24 (res2 Tryz.results24 rfl rfl) ?_
  exact ⟨v, c, by rw [h0], by rw [e1]; exact hrv, hO11.sub (.cons_cons _ (List.nil_sublist _))⟩
noncomputable def rkR (f : Fair) (nq ln : Nat) (l : Int → Int) (x : Int) : Int := if jdE f nq ln l = 0 then x else 0
set_option maxHeartbeats 2000000 in
theorem rank5p_any :
  Calls Tryz.prog 27 #[.agg #[.slice ga f.n gc, .slice ba f.m bc, .slice qa nq qc], .slice la ln lc] w fun e w' => e = .returned (.tuple #[iv (rkR f nq ln l (rkA f l f.n)), iv (rkR f nq ln l (rkB f l f.n)), iv (jdE f nq ln l)]) ∧ Below w.heap.size w w' := by
 obtain ⟨lb, lo, hla, hlrow⟩ := hl.open
 refine calls_of_run (F := [(0, _), (1, _)]) Tryz.func27 rfl Tryz.ntmps27 rfl rfl ?_
 have hO0 := Own.init w
 refine run_seq <| run_region <| rl_ow rfl (ow_box _ rfl rfl rfl rfl rfl hO0) ?_
 rintro _ w1 ⟨b1, rfl, hO2, hs3⟩
 refine rl_v rfl rfl rfl (ov_assign rfl rfl) <| rl_v rfl rfl rfl (ov_assign rfl rfl) <| rl_v rfl rfl rfl (ov_assign rfl rfl) <| rl_nil <| run_seq <| run_region <| rl_v rfl rfl rfl (ov_loadW rfl Tryz.underlying27 rfl (by kernel_rfl) rfl hO2 0 rfl) ?_
 refine rl_v rfl rfl rfl (ov_move rfl rfl) ?_
 refine rl_call callable_52 rfl rfl rfl rfl rfl rfl (judged5_any ga ba qa la gc bc qc nq ln lc f l _ hlg (hO2.fag hF) hln (hO2.iatF hl)) (fun e4 w5 hp6 => ?_)
 obtain ⟨tv, H1, rfl, hO1, hP⟩ := hp6
 refine ⟨_, rfl, ?_⟩
 have hO7 := hO2.join hO1
 refine rl_v rfl rfl rfl (ov_move rfl rfl) <| rl_v rfl rfl rfl (ov_extract rfl rfl (by rfl)) ?_
 refine rl_v rfl rfl rfl (ov_extract rfl rfl (by rfl)) ?_
 refine rl_v rfl rfl rfl (ov_assign rfl rfl) <| rl_v rfl rfl rfl (ov_assign rfl rfl) <| rl_nil <| run_seq <| run_seq <| run_region <| rl_v rfl rfl rfl (ov_move rfl rfl) <| rl_v rfl rfl rfl (ov_neq rfl rfl rfl) <| rl_nil ?_
 first | refine run_cond_dec rfl (fun h1 => ?_) (fun h1 => ?_) | refine run_cond rfl (fun h1 => ?_) (fun h1 => ?_)
 ·refine run_seq <| run_region <| rl_v rfl rfl rfl (ov_move rfl rfl) <| rl_v rfl rfl rfl (ov_assign rfl rfl) <| rl_v rfl rfl rfl (ov_assign rfl rfl) <| rl_v rfl rfl rfl (ov_assign rfl rfl) <| rl_nil <| run_ret Tryz.func27 (res3 Tryz.results27 rfl rfl rfl) ?_
  exact ⟨by unfold rkR; rw [if_neg h1, if_neg h1]; rfl, hO7.below⟩
 ·have h0 : jdE f nq ln l = 0 := Classical.not_not.1 h1
  obtain ⟨tb, rfl, hP1⟩ := hP h0
  obtain ⟨hVq, hlf, hp⟩ := jdE_0.1 h0
  obtain ⟨hV, hF2, hnq⟩ := valid5_iff ga ba qa nq f w hlg hF (chkF_0.2 hVq)
  have hn := hV.sm.n
  obtain rfl : ln = f.n := hlf
  obtain ⟨ga2, ba2, qa2, ma, na, gc2, bc2, qc2, mc, nc, hL, hF3, hM, hN⟩ := hP1
  have hT := hL.open
  obtain ⟨mg, gb, go, hga, hrow, hmap⟩ := hM.open
  obtain ⟨nb, qb, qo, hqa, hqrow, hnap⟩ := hN.open
  have hOn := hO7.none_
  refine run_skip <| run_seq <| run_seq <| run_region <| rl_v rfl rfl rfl (ov_move rfl rfl) <| rl_v rfl rfl rfl (ov_len rfl Tryz.underlying23 rfl) <| rl_v rfl rfl rfl (ov_move rfl rfl) <| rl_nil <| run_block <| Run.keep [4, 5, 7, 19, 20, 21] (F' := [(4, _), (5, _), (7, _), (19, _), (20, _), (21, _)]) rfl <| run_loop3 (fun (k : Int) (x : Int) (y : Int) => [(21, .int .i64 k), (4, .int .i64 x), (5, .int .i64 y)]) [7, 19, 20] (fun (k : Int) (x : Int) (y : Int) (w8 : World) => 0 ≤ k ∧ k ≤ f.n ∧ x = rkA f l k ∧ y = rkB f l k ∧ Below (World.heap w5).size w5 w8 ∧ Own w.heap.size w w8 []) (fun (k : Int) (x : Int) (y : Int) => ((f.n : Int) - k).toNat) (0) (0) (0) ?_ (And.intro (by exact slot_int rfl (by first | omega)) (And.intro (by exact slot_int rfl (by first | omega)) (And.intro (by exact slot_int rfl (by first | omega)) (And.intro rfl (And.intro rfl (And.intro rfl trivial)))))) ?_
  ·exact ⟨by omega, by omega, rfl, rfl, Below.refl _ _, hOn⟩
  intro k x y w8 hIw8 ih9
  obtain ⟨hk0, hk1, hx, hy, hbw, hO⟩ := hIw8
  show Run _ _ _ _ [(21, _), (4, _), (5, _), (7, _), (19, _), (20, _)] _ _
  refine run_seq <| run_region <| rl_v rfl rfl rfl (ov_lss rfl rfl rfl) <| rl_nil <| run_seq ?_
  first | refine run_cond_dec rfl (fun h2 => ?_) (fun h2 => ?_) | refine run_cond rfl (fun h2 => ?_) (fun h2 => ?_)
  ·have hat := hp.at_ k hk0 h2
   have hA : rkA f l (k + 1) = rkA f l k + if 0 ≤ l k then f.rg k (l k) else 0 := sm_succ _ hk0
   have hB : rkB f l (k + 1) = rkB f l k + if 0 ≤ l k then f.rb (l k) k else 0 := sm_succ _ hk0
   have hA1 := rkA_bd (f := f) (l := l) hV hk0 hk1
   have hB1 := rkB_bd (f := f) (l := l) hV hp hk0 hk1
   refine run_skip <| run_seq <| run_block <| run_seq <| run_region <| rl_v rfl rfl rfl (ov_move rfl rfl) <| rl_v rfl rfl rfl (ov_index1 rfl Tryz.underlying23 (by kernel_rfl) rfl rfl ⟨by omega, by omega⟩ (by exact hla (by omega))) ?_
   refine rl_v rfl rfl rfl (ov_load rfl Tryz.underlying3 rfl rfl (by exact hlrow _ hO.below _ (by omega) (by omega))) ?_
   refine rl_v rfl rfl rfl (ov_assign rfl rfl) <| rl_v rfl rfl rfl (ov_assign rfl rfl) <| rl_nil <| run_seq <| run_region <| rl_v rfl rfl rfl (ov_move rfl rfl) <| rl_v rfl rfl rfl (ov_geq rfl rfl rfl) <| rl_nil ?_
   first | refine run_cond_dec rfl (fun h3 => ?_) (fun h3 => ?_) | refine run_cond rfl (fun h3 => ?_) (fun h3 => ?_)
   ·have hk4 : f.know k (l k) := by rcases hat with e | e; omega; exact e.2
    have hm2 : l k < f.m := by omega
    have hlg1 := rkL_lkp (E := f.ge k) (x := l k) (hV.ok.gd k hk0 h2)
    have hlb1 := rkL_lkp (E := f.be (l k)) (x := k) (hV.ok.bd (l k) h3 hm2)
    have e1 : rk (f.ge k) (f.gl k) (l k) < f.gl k := hk4.1
    have e2 : rk (f.be (l k)) (f.bl (l k)) k < f.bl (l k) := hk4.2
    have e3 := hV.sm.gl k hk0 h2
    have e4 := hV.sm.bl (l k) h3 hm2
    have e5 := Fair.rg_nonneg f k (l k)
    have e6 := Fair.rb_nonneg f (l k) k
    have e7 : f.rg k (l k) = rk (f.ge k) (f.gl k) (l k) := rfl
    have e8 : f.rb (l k) k = rk (f.be (l k)) (f.bl (l k)) k := rfl
    rw [if_pos h3] at hA hB
    subst hx hy
    refine run_seq <| run_region <| rl_v rfl rfl rfl (ov_move rfl rfl) <| rl_v rfl rfl rfl (ov_move rfl rfl) <| rl_v rfl rfl rfl (ov_nil rfl rfl) <| rl_v rfl rfl rfl (ov_fieldS rfl Tryz.underlying100 rfl (fo := 3) rfl (by kernel_rfl) rfl) ?_
    refine rl_v rfl rfl rfl (ov_load rfl Tryz.underlying98 rfl rfl (by exact hT _ hbw rfl)) ?_
    refine rl_v rfl rfl rfl (ov_move rfl rfl) <| rl_v rfl rfl rfl (ov_index1 rfl Tryz.underlying98 (by kernel_rfl) rfl rfl ⟨by omega, by omega⟩ (by exact hga (by omega))) ?_
    refine rl_v rfl rfl rfl (ov_load rfl Tryz.underlying97 rfl rfl (by exact hrow _ hbw _ (by omega) (by omega))) ?_
    refine rl_v rfl rfl rfl (ov_move rfl rfl) <| rl_v rfl rfl rfl (ovI (ov_lookR rfl Tryz.underlying97 Tryz.underlying3 rfl rfl rfl (hmap _ hbw _ (by omega) (by omega)) hlg1) (if_pos e1)) ?_
    refine rl_v rfl rfl rfl (ov_add rfl rfl rfl (by omega)) ?_
    refine rl_v rfl rfl rfl (ov_assign rfl rfl) <| rl_nil <| run_region <| rl_v rfl rfl rfl (ov_move rfl rfl) <| rl_v rfl rfl rfl (ov_move rfl rfl) <| rl_v rfl rfl rfl (ov_nil rfl rfl) <| rl_v rfl rfl rfl (ov_fieldS rfl Tryz.underlying100 rfl (fo := 4) rfl (by kernel_rfl) rfl) ?_
    refine rl_v rfl rfl rfl (ov_load rfl Tryz.underlying98 rfl rfl (by exact hT _ hbw rfl)) ?_
    refine rl_v rfl rfl rfl (ov_move rfl rfl) <| rl_v rfl rfl rfl (ov_index1 rfl Tryz.underlying98 (by kernel_rfl) rfl rfl ⟨by omega, by omega⟩ (by exact hqa (by omega))) ?_
    refine rl_v rfl rfl rfl (ov_load rfl Tryz.underlying97 rfl rfl (by exact hqrow _ hbw _ (by omega) (by omega))) ?_
    refine rl_v rfl rfl rfl (ov_move rfl rfl) <| rl_v rfl rfl rfl (ovI (ov_lookR rfl Tryz.underlying97 Tryz.underlying3 rfl rfl rfl (hnap _ hbw _ (by omega) (by omega)) hlb1) (if_pos e2)) ?_
    refine rl_v rfl rfl rfl (ov_add rfl rfl rfl (by omega)) ?_
    refine rl_v rfl rfl rfl (ov_assign rfl rfl) <| rl_nil <| run_inBlock <| run_region <| rl_v rfl rfl rfl (ov_add rfl rfl rfl (by omega)) ?_
    refine rl_v rfl rfl rfl (ov_move rfl rfl) <| rl_nil ?_
    refine Run.use (ih9 (k + 1) _ _ _ ?_ ?_) (And.intro (by exact slot_int rfl (by first | omega)) (And.intro (by rfl) (And.intro (by rfl) (And.intro rfl (And.intro rfl (And.intro rfl trivial))))))
    ·first | omega | (dsimp only; omega)
    ·exact ⟨by omega, by omega, by rw [hA]; rfl, by rw [hB]; rfl, hbw, hO⟩
   ·rw [if_neg h3] at hA hB
    refine run_skip <| run_inBlock <| run_region <| rl_v rfl rfl rfl (ov_add rfl rfl rfl (by omega)) ?_
    refine rl_v rfl rfl rfl (ov_move rfl rfl) <| rl_nil ?_
    refine Run.use (ih9 (k + 1) (x) (y) _ ?_ ?_) (And.intro (by exact slot_int rfl (by first | omega)) (And.intro (by exact slot_int rfl (by first | omega)) (And.intro (by exact slot_int rfl (by first | omega)) (And.intro rfl (And.intro rfl (And.intro rfl trivial))))))
    ·first | omega | (dsimp only; omega)
    ·exact ⟨by omega, by omega, by omega, by omega, hbw, hO⟩
  ·obtain rfl : k = f.n := by omega
   refine run_exit rfl <| run_seq <| run_region <| rl_v rfl rfl rfl (ov_move rfl rfl) <| rl_v rfl rfl rfl (ov_move rfl rfl) <| rl_v rfl rfl rfl (ov_assign rfl rfl) <| rl_v rfl rfl rfl (ov_assign rfl rfl) <| rl_v rfl rfl rfl (ov_assign rfl rfl) <| rl_nil <| run_ret Tryz.func27 (res3 Tryz.results27 rfl rfl rfl) ?_
   exact ⟨by rw [hx, hy, h0]; unfold rkR; rw [if_pos h0, if_pos h0], hO.below⟩
end
end Go.Proofs.YtlldeifbfpmbaaaGreat
