import Derived.Test.YtlldeifbfpmbaaaGreatFiD
import Derived.Test.YtlldeifbfpmbaaaGreatTb9
import Derived.Laws.StructEq
set_option maxRecDepth 100000
namespace Go.Proofs.YtlldeifbfpmbaaaGreat
open Go.RowKit Go.Proofs Go.MapKept
noncomputable def dB (p : Prop) : Bool := @decide p (Classical.propDecidable p)
theorem dB_iff {p : Prop} : dB p = true ↔ p := @decide_eq_true_iff p (Classical.propDecidable p)
theorem dB_of {b : Bool} {p : Prop} (h : b = true ↔ p) : b = dB p := by
 cases b
 ·cases e : dB p
  ·rfl
  ·exact h.2 (dB_iff.1 e)
 ·exact (dB_iff.2 (h.1 rfl)).symm
theorem callsDB {f : FuncId} {args : Array Value} {w : World} {p : Prop} {B : World → Prop} (h : Calls Tryz.prog f args w fun e w' => (∃ b, e = .returned (.bool b) ∧ (b = true ↔ p)) ∧ B w') : Calls Tryz.prog f args w fun e w' => e = .returned (.bool (dB p)) ∧ B w' :=
 h.mono fun _ _ ⟨⟨b, h1, h2⟩, h3⟩ => ⟨by rw [h1, dB_of h2], h3⟩
section
variable (ga ba qa la : Option Addr) (gc bc qc nq ln lc : Nat) (f : Fair) (l : Int → Int) (w : World) (hlg : Lg5 f nq) (hF : FAg w.heap.size w ga ba qa f nq) (hln : ln ≤ 1000000) (hl : IAt w.heap.size w la ln (fun i => iv (l i)))
include hlg hF hln hl
set_option maxHeartbeats 1000000 in
theorem possibleP_any : Calls Tryz.prog 28 #[.agg #[.slice ga f.n gc, .slice ba f.m bc, .slice qa nq qc], .slice la ln lc] w fun e w' => (∃ b, e = .returned (.bool b) ∧ (b = true ↔ Valid5 f nq ∧ ln = f.n ∧ f.Poss l)) ∧ Below w.heap.size w w' := by
 refine calls_of_run (F := [(0, _), (1, _)]) Tryz.func28 rfl Tryz.ntmps28 rfl rfl ?_
 have hO0 := Own.init w
 refine run_seq <| run_region <| rl_ow rfl (ow_box _ rfl rfl rfl rfl rfl hO0) ?_
 rintro _ w1 ⟨b1, rfl, hO2, hs3⟩
 refine rl_v rfl rfl rfl (ov_assign rfl rfl) <| rl_nil <| run_seq <| run_region <| rl_v rfl rfl rfl (ov_loadW rfl Tryz.underlying27 rfl (by kernel_rfl) rfl hO2 0 rfl) ?_
 refine rl_call callable_23 rfl rfl rfl rfl rfl rfl (check5_any ga ba qa gc bc qc nq f _ hlg.n hlg.m hlg.q hlg.gl hlg.bl (hO2.fag hF)) (fun e4 w5 hp6 => ?_)
 obtain ⟨rfl, hbl⟩ := hp6
 refine ⟨_, rfl, ?_⟩
 have hO7 := hO2.past hbl
 refine rl_v rfl rfl rfl (ov_eql rfl rfl rfl) <| rl_v rfl rfl rfl (ov_move rfl rfl) ?_
 first | refine rl_split_dec 8 rfl (fun h1 => ?_) (fun h1 => ?_) | refine rl_split 8 rfl (fun h1 => ?_) (fun h1 => ?_)
 ·refine rl_gv rfl rfl rfl rfl rfl (ov_loadW rfl Tryz.underlying27 rfl (by kernel_rfl) rfl hO7 0 rfl) ?_
  obtain ⟨hV, hF2, hnq⟩ := valid5_iff ga ba qa nq f w hlg hF h1
  subst hnq
  refine rl_gcall callable_40 rfl rfl rfl rfl rfl rfl rfl rfl (newTables_any ga ba qa gc bc qc f _ hV.sm ((hO7.fag hF2).fat rfl)) (fun e9 w10 hp11 => ?_)
  obtain ⟨tb, H1, rfl, hO1, hP⟩ := hp11
  refine ⟨_, rfl, ?_⟩
  have hO12 := hO7.join hO1
  refine rl_gv rfl rfl rfl rfl rfl (ov_move rfl rfl) ?_
  refine rl_gcall callable_53 rfl rfl rfl rfl rfl rfl rfl rfl (possible5_any tb la ln lc f l _ hV hP hln (hO12.iatF hl)) (fun e13 w14 hp15 => ?_)
  obtain ⟨⟨r, rfl, hr⟩, hb1⟩ := hp15
  refine ⟨_, rfl, ?_⟩
  have hO16 := hO12.past hb1
  refine rl_v rfl rfl rfl (ov_pick_t rfl rfl rfl) <| rl_v rfl rfl rfl (ov_assign rfl rfl) <| rl_nil <| run_ret Tryz.func28 (res1 Tryz.results28 rfl) ?_
  exact ⟨⟨r, rfl, hr.trans ⟨fun h => ⟨hV, h⟩, And.right⟩⟩, hO16.below⟩
 ·refine rl_gskip rfl rfl rfl rfl rfl rfl <| rl_gskip rfl rfl rfl rfl rfl rfl <| rl_gskip rfl rfl rfl rfl rfl rfl <| rl_gskip rfl rfl rfl rfl rfl rfl <| rl_v rfl rfl rfl (ov_pick_f rfl rfl rfl) <| rl_v rfl rfl rfl (ov_assign rfl rfl) <| rl_nil <| run_ret Tryz.func28 (res1 Tryz.results28 rfl) ?_
  exact ⟨⟨false, rfl, ⟨fun h => Bool.noConfusion h, fun h => absurd (chkF_0.2 h.1) h1⟩⟩, hO7.below⟩
set_option maxHeartbeats 1000000 in
theorem stableP_any : Calls Tryz.prog 29 #[.agg #[.slice ga f.n gc, .slice ba f.m bc, .slice qa nq qc], .slice la ln lc] w fun e w' => (∃ b, e = .returned (.bool b) ∧ (b = true ↔ Valid5 f nq ∧ ln = f.n ∧ f.Stab l)) ∧ Below w.heap.size w w' := by
 refine calls_of_run (F := [(0, _), (1, _)]) Tryz.func29 rfl Tryz.ntmps29 rfl rfl ?_
 have hO0 := Own.init w
 refine run_seq <| run_region <| rl_ow rfl (ow_box _ rfl rfl rfl rfl rfl hO0) ?_
 rintro _ w1 ⟨b1, rfl, hO2, hs3⟩
 refine rl_v rfl rfl rfl (ov_assign rfl rfl) <| rl_nil <| run_seq <| run_region <| rl_v rfl rfl rfl (ov_loadW rfl Tryz.underlying27 rfl (by kernel_rfl) rfl hO2 0 rfl) ?_
 refine rl_call callable_23 rfl rfl rfl rfl rfl rfl (check5_any ga ba qa gc bc qc nq f _ hlg.n hlg.m hlg.q hlg.gl hlg.bl (hO2.fag hF)) (fun e4 w5 hp6 => ?_)
 obtain ⟨rfl, hbl⟩ := hp6
 refine ⟨_, rfl, ?_⟩
 have hO7 := hO2.past hbl
 refine rl_v rfl rfl rfl (ov_eql rfl rfl rfl) <| rl_v rfl rfl rfl (ov_move rfl rfl) ?_
 first | refine rl_split_dec 8 rfl (fun h1 => ?_) (fun h1 => ?_) | refine rl_split 8 rfl (fun h1 => ?_) (fun h1 => ?_)
 ·refine rl_gv rfl rfl rfl rfl rfl (ov_loadW rfl Tryz.underlying27 rfl (by kernel_rfl) rfl hO7 0 rfl) ?_
  obtain ⟨hV, hF2, hnq⟩ := valid5_iff ga ba qa nq f w hlg hF h1
  subst hnq
  refine rl_gcall callable_40 rfl rfl rfl rfl rfl rfl rfl rfl (newTables_any ga ba qa gc bc qc f _ hV.sm ((hO7.fag hF2).fat rfl)) (fun e9 w10 hp11 => ?_)
  obtain ⟨tb, H1, rfl, hO1, hP⟩ := hp11
  refine ⟨_, rfl, ?_⟩
  have hO12 := hO7.join hO1
  refine rl_gv rfl rfl rfl rfl rfl (ov_move rfl rfl) ?_
  refine rl_gcall callable_56 rfl rfl rfl rfl rfl rfl rfl rfl (stable5_any tb la ln lc f l _ hV hP hln (hO12.iatF hl)) (fun e13 w14 hp15 => ?_)
  obtain ⟨⟨r, rfl, hr⟩, hb1⟩ := hp15
  refine ⟨_, rfl, ?_⟩
  have hO16 := hO12.past hb1
  refine rl_v rfl rfl rfl (ov_pick_t rfl rfl rfl) <| rl_v rfl rfl rfl (ov_assign rfl rfl) <| rl_nil <| run_ret Tryz.func29 (res1 Tryz.results29 rfl) ?_
  exact ⟨⟨r, rfl, hr.trans ⟨fun h => ⟨hV, h⟩, And.right⟩⟩, hO16.below⟩
 ·refine rl_gskip rfl rfl rfl rfl rfl rfl <| rl_gskip rfl rfl rfl rfl rfl rfl <| rl_gskip rfl rfl rfl rfl rfl rfl <| rl_gskip rfl rfl rfl rfl rfl rfl <| rl_v rfl rfl rfl (ov_pick_f rfl rfl rfl) <| rl_v rfl rfl rfl (ov_assign rfl rfl) <| rl_nil <| run_ret Tryz.func29 (res1 Tryz.results29 rfl) ?_
  exact ⟨⟨false, rfl, ⟨fun h => Bool.noConfusion h, fun h => absurd (chkF_0.2 h.1) h1⟩⟩, hO7.below⟩
theorem blocksV_any : Calls Tryz.prog 24 #[.agg #[.slice ga f.n gc, .slice ba f.m bc, .slice qa nq qc], .slice la ln lc] w fun e w' => ∃ ao cap c je Lb, je = jdE f nq ln l ∧ Lb = blkR f nq ln l ∧ e = .returned (.tuple #[.slice ao (List.length Lb) cap, iv je]) ∧ SRow (.slice ao (List.length Lb) cap) 48 2 (List.length Lb) (prG Lb) c ∧ Own w.heap.size w w' [c] :=
 (blocks5_any ga ba qa la gc bc qc nq ln lc f l w hlg hF hln hl).mono fun _ _ ⟨v, c, h1, h2, h3⟩ => by
  obtain ⟨ao, cap, rfl⟩ := Row.val h2
  exact ⟨ao, cap, c, _, _, rfl, rfl, h1, h2, h3⟩
theorem rankV_any : Calls Tryz.prog 27 #[.agg #[.slice ga f.n gc, .slice ba f.m bc, .slice qa nq qc], .slice la ln lc] w fun e w' => ∃ x y je, x = rkR f nq ln l (rkA f l f.n) ∧ y = rkR f nq ln l (rkB f l f.n) ∧ je = jdE f nq ln l ∧ e = .returned (.tuple #[iv x, iv y, iv je]) ∧ Below w.heap.size w w' :=
 (rank5p_any ga ba qa la gc bc qc nq ln lc f l w hlg hF hln hl).mono fun _ _ ⟨h1, h2⟩ => ⟨_, _, _, rfl, rfl, rfl, h1, h2⟩
end
end Go.Proofs.YtlldeifbfpmbaaaGreat
