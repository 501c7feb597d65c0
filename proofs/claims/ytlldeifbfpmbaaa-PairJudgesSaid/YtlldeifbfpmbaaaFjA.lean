import Derived.Test.YtlldeifbfpmbaaaFiD
import Derived.Test.YtlldeifbfpmbaaaFeF
import Derived.Laws.StructEq
set_option maxRecDepth 100000
namespace Go.Proofs.Ytlldeifbfpmbaaa
open Go.RowKit Go.Proofs Go.MapKept
theorem eqF_same5 {P : Program} {w : World} {d : Nat} {xs : Array Value} : ∀ (fs : List Field), (∀ f ∈ fs, ∃ (kk : IntKind) (m : Int), P.underlying f.type = some (.int kk) ∧ xs[f.offset]? = some (.int kk m)) → (Op.eqFields (d + 1) xs xs fs).run P w = .ok true w
 | [], _ => rfl
 | f :: fs, h => by
  obtain ⟨kk, m, hu, hx⟩ := h f (List.mem_cons_self ..)
  have hp : (part f.type xs f.offset).run P w = .ok (.int kk m) w := by simp [part, isAgg, run_underlying hu, hx]
  have he : (Op.equalIn (d + 1) f.type (.int kk m) (.int kk m)).run P w = .ok true w := by rw [run_equalIn_int w d f.type kk kk m m hu]; simp
  have ih := eqF_same5 (w := w) (d := d) fs fun g hg => h g (List.mem_cons_of_mem _ hg)
  unfold Op.eqFields
  split
  ·simp [hp, he, ih, Result.andThen]
  ·exact ih
theorem ov_neqS5 {N : Nat} {o : Oper} {F : Fr} {w : World} {x y : Operand} {U T : TypeId} {xs : Array Value} {fs : Array Field} (ho : o.op = .binOp .neq T x y U) (hT : Try.prog.underlying T = some (.struct fs)) (hsm : ∀ f ∈ fs.toList, ∃ (kk : IntKind) (m : Int), Try.prog.underlying f.type = some (.int kk) ∧ xs[f.offset]? = some (.int kk m))
  (hp : Try.prog.stoodInHeld T = false) (hm : Try.prog.eqGuardType Try.prog.depth T = false) (hx : Fr.ev F x = some (.agg xs)) (hy : Fr.ev F y = some (.agg xs)) : OpV Try.prog N o F w (.bool false) := by
 intro r hr
 have hfo : Try.prog.fieldsOf T = fs := by unfold Program.fieldsOf; rw [hT]
 have h1 : (Op.equalIn 10000 T (.agg xs) (.agg xs)).run Try.prog w = .ok true w := by
  rw [run_equalIn_struct w 9999 T _ _ (by rw [hfo]; exact hT) hp, hfo]
  exact eqF_same5 (d := 9998) _ hsm
 unfold execOp
 have hg := run_eqGuard_agg (P := Try.prog) w .neq T x y xs xs hm
 simp only [ho, hr.ev hx, hr.ev hy, Sem.run_bind, hg, Result.andThen_ok, run_neq_struct, h1]
 simp
theorem ov_neqB5 {P : Program} {N : Nat} {o : Oper} {F : Fr} {w : World} {T U : TypeId} {x y : Operand} {a b : Bool} (ho : o.op = .binOp .neq T x y U) (hT : P.underlying T = some .bool) (hx : Fr.ev F x = some (.bool a)) (hy : Fr.ev F y = some (.bool b)) : OpV P N o F w (.bool (decide (a ≠ b))) := by
 intro r hr
 unfold execOp
 have h1 := run_equal_bool (P := P) w T a b hT
 have e : (!(a == b)) = decide (a ≠ b) := by cases a <;> cases b <;> rfl
 simp only [ho, hr.ev hx, hr.ev hy, Sem.run_bind, eqGuard]
 simp [binOp, h1, Result.andThen, e]
theorem samePr (a b : Int) : ∀ f ∈ (Try.prog.fieldsOf 77).toList, ∃ (kk : IntKind) (q : Int), Try.prog.underlying f.type = some (.int kk) ∧ (#[iv a, iv b] : Array Value)[f.offset]? = some (.int kk q) := by
 unfold Program.fieldsOf
 rw [Try.underlying77]
 intro f hf
 simp only [List.mem_cons, List.not_mem_nil, or_false] at hf
 rcases hf with rfl | rfl
 ·exact ⟨.i64, a, Try.underlying3, rfl⟩
 ·exact ⟨.i64, b, Try.underlying3, rfl⟩
theorem ov_neqPr {N : Nat} {o : Oper} {F : Fr} {w : World} {x y : Operand} {U : TypeId} {a b : Int} (ho : o.op = .binOp .neq 77 x y U) (hx : Fr.ev F x = some (.agg #[iv a, iv b])) (hy : Fr.ev F y = some (.agg #[iv a, iv b])) : OpV Try.prog N o F w (.bool false) :=
 ov_neqS5 ho (by unfold Program.fieldsOf; rw [Try.underlying77]) (samePr a b) (by kernel_rfl) (by kernel_rfl) hx hy
noncomputable def dB (p : Prop) : Bool := @decide p (Classical.propDecidable p)
theorem dB_iff {p : Prop} : dB p = true ↔ p := @decide_eq_true_iff p (Classical.propDecidable p)
theorem dB_of {b : Bool} {p : Prop} (h : b = true ↔ p) : b = dB p := by
 cases b
 ·cases e : dB p
  ·rfl
  ·exact h.2 (dB_iff.1 e)
 ·exact (dB_iff.2 (h.1 rfl)).symm
theorem callsDB {f : FuncId} {args : Array Value} {w : World} {p : Prop} {B : World → Prop} (h : Calls Try.prog f args w fun e w' => (∃ b, e = .returned (.bool b) ∧ (b = true ↔ p)) ∧ B w') : Calls Try.prog f args w fun e w' => e = .returned (.bool (dB p)) ∧ B w' :=
 h.mono fun _ _ ⟨⟨b, h1, h2⟩, h3⟩ => ⟨by rw [h1, dB_of h2], h3⟩
section
variable (ga ba qa la : Option Addr) (gc bc qc nq ln lc : Nat) (f : Fair) (l : Int → Int) (w : World) (hlg : Lg5 f nq) (hF : FAg w.heap.size w ga ba qa f nq) (hln : ln ≤ 1000000) (hl : IAt w.heap.size w la ln (fun i => iv (l i)))
include hlg hF hln hl
set_option maxHeartbeats 1000000 in
theorem possibleP_any : Calls Try.prog 41 #[.agg #[.slice ga f.n gc, .slice ba f.m bc, .slice qa nq qc], .slice la ln lc] w fun e w' => (∃ b, e = .returned (.bool b) ∧ (b = true ↔ Valid5 f nq ∧ ln = f.n ∧ f.Poss l)) ∧ Below w.heap.size w w' := by
 refine calls_of_run (F := [(0, _), (1, _)]) Try.func41 rfl Try.ntmps41 rfl rfl ?_
 have hO0 := Own.init w
 refine run_seq <| run_region <| rl_ow rfl (ow_box _ rfl rfl rfl rfl rfl hO0) ?_
 rintro _ w1 ⟨b1, rfl, hO2, hs3⟩
 refine rl_v rfl rfl rfl (ov_assign rfl rfl) <| rl_nil <| run_seq <| run_region <| rl_v rfl rfl rfl (ov_loadW rfl Try.underlying30 rfl (by kernel_rfl) rfl hO2 0 rfl) ?_
 refine rl_call callable_47 rfl rfl rfl rfl rfl rfl (check5_any ga ba qa gc bc qc nq f _ hlg.n hlg.m hlg.q hlg.gl hlg.bl (hO2.fag hF)) (fun e4 w5 hp6 => ?_)
 obtain ⟨rfl, hbl⟩ := hp6
 refine ⟨_, rfl, ?_⟩
 have hO7 := hO2.past hbl
 refine rl_v rfl rfl rfl (ov_eql rfl rfl rfl) <| rl_v rfl rfl rfl (ov_move rfl rfl) ?_
 first | refine rl_split_dec 8 rfl (fun h1 => ?_) (fun h1 => ?_) | refine rl_split 8 rfl (fun h1 => ?_) (fun h1 => ?_)
 ·refine rl_gv rfl rfl rfl rfl rfl (ov_loadW rfl Try.underlying30 rfl (by kernel_rfl) rfl hO7 0 rfl) ?_
  obtain ⟨hV, hF2, hnq⟩ := valid5_iff ga ba qa nq f w hlg hF h1
  subst hnq
  refine rl_gcall callable_48 rfl rfl rfl rfl rfl rfl rfl rfl (newTables_any ga ba qa gc bc qc f _ hV.sm ((hO7.fag hF2).fat rfl)) (fun e9 w10 hp11 => ?_)
  obtain ⟨tb, H1, rfl, hO1, hP⟩ := hp11
  refine ⟨_, rfl, ?_⟩
  have hO12 := hO7.join hO1
  refine rl_gv rfl rfl rfl rfl rfl (ov_move rfl rfl) ?_
  refine rl_gcall callable_63 rfl rfl rfl rfl rfl rfl rfl rfl (possible5_any tb la ln lc f l _ hV hP hln (hO12.iatF hl)) (fun e13 w14 hp15 => ?_)
  obtain ⟨⟨r, rfl, hr⟩, hb1⟩ := hp15
  refine ⟨_, rfl, ?_⟩
  have hO16 := hO12.past hb1
  refine rl_v rfl rfl rfl (ov_pick_t rfl rfl rfl) <| rl_v rfl rfl rfl (ov_assign rfl rfl) <| rl_nil <| run_ret Try.func41 (res1 Try.results41 rfl) ?_
  exact ⟨⟨r, rfl, hr.trans ⟨fun h => ⟨hV, h⟩, And.right⟩⟩, hO16.below⟩
 ·refine rl_gskip rfl rfl rfl rfl rfl rfl <| rl_gskip rfl rfl rfl rfl rfl rfl <| rl_gskip rfl rfl rfl rfl rfl rfl <| rl_gskip rfl rfl rfl rfl rfl rfl <| rl_v rfl rfl rfl (ov_pick_f rfl rfl rfl) <| rl_v rfl rfl rfl (ov_assign rfl rfl) <| rl_nil <| run_ret Try.func41 (res1 Try.results41 rfl) ?_
  exact ⟨⟨false, rfl, ⟨fun h => Bool.noConfusion h, fun h => absurd (chkF_0.2 h.1) h1⟩⟩, hO7.below⟩
set_option maxHeartbeats 1000000 in
theorem stableP_any : Calls Try.prog 42 #[.agg #[.slice ga f.n gc, .slice ba f.m bc, .slice qa nq qc], .slice la ln lc] w fun e w' => (∃ b, e = .returned (.bool b) ∧ (b = true ↔ Valid5 f nq ∧ ln = f.n ∧ f.Stab l)) ∧ Below w.heap.size w w' := by
 refine calls_of_run (F := [(0, _), (1, _)]) Try.func42 rfl Try.ntmps42 rfl rfl ?_
 have hO0 := Own.init w
 refine run_seq <| run_region <| rl_ow rfl (ow_box _ rfl rfl rfl rfl rfl hO0) ?_
 rintro _ w1 ⟨b1, rfl, hO2, hs3⟩
 refine rl_v rfl rfl rfl (ov_assign rfl rfl) <| rl_nil <| run_seq <| run_region <| rl_v rfl rfl rfl (ov_loadW rfl Try.underlying30 rfl (by kernel_rfl) rfl hO2 0 rfl) ?_
 refine rl_call callable_47 rfl rfl rfl rfl rfl rfl (check5_any ga ba qa gc bc qc nq f _ hlg.n hlg.m hlg.q hlg.gl hlg.bl (hO2.fag hF)) (fun e4 w5 hp6 => ?_)
 obtain ⟨rfl, hbl⟩ := hp6
 refine ⟨_, rfl, ?_⟩
 have hO7 := hO2.past hbl
 refine rl_v rfl rfl rfl (ov_eql rfl rfl rfl) <| rl_v rfl rfl rfl (ov_move rfl rfl) ?_
 first | refine rl_split_dec 8 rfl (fun h1 => ?_) (fun h1 => ?_) | refine rl_split 8 rfl (fun h1 => ?_) (fun h1 => ?_)
 ·refine rl_gv rfl rfl rfl rfl rfl (ov_loadW rfl Try.underlying30 rfl (by kernel_rfl) rfl hO7 0 rfl) ?_
  obtain ⟨hV, hF2, hnq⟩ := valid5_iff ga ba qa nq f w hlg hF h1
  subst hnq
  refine rl_gcall callable_48 rfl rfl rfl rfl rfl rfl rfl rfl (newTables_any ga ba qa gc bc qc f _ hV.sm ((hO7.fag hF2).fat rfl)) (fun e9 w10 hp11 => ?_)
  obtain ⟨tb, H1, rfl, hO1, hP⟩ := hp11
  refine ⟨_, rfl, ?_⟩
  have hO12 := hO7.join hO1
  refine rl_gv rfl rfl rfl rfl rfl (ov_move rfl rfl) ?_
  refine rl_gcall callable_64 rfl rfl rfl rfl rfl rfl rfl rfl (stable5_any tb la ln lc f l _ hV hP hln (hO12.iatF hl)) (fun e13 w14 hp15 => ?_)
  obtain ⟨⟨r, rfl, hr⟩, hb1⟩ := hp15
  refine ⟨_, rfl, ?_⟩
  have hO16 := hO12.past hb1
  refine rl_v rfl rfl rfl (ov_pick_t rfl rfl rfl) <| rl_v rfl rfl rfl (ov_assign rfl rfl) <| rl_nil <| run_ret Try.func42 (res1 Try.results42 rfl) ?_
  exact ⟨⟨r, rfl, hr.trans ⟨fun h => ⟨hV, h⟩, And.right⟩⟩, hO16.below⟩
 ·refine rl_gskip rfl rfl rfl rfl rfl rfl <| rl_gskip rfl rfl rfl rfl rfl rfl <| rl_gskip rfl rfl rfl rfl rfl rfl <| rl_gskip rfl rfl rfl rfl rfl rfl <| rl_v rfl rfl rfl (ov_pick_f rfl rfl rfl) <| rl_v rfl rfl rfl (ov_assign rfl rfl) <| rl_nil <| run_ret Try.func42 (res1 Try.results42 rfl) ?_
  exact ⟨⟨false, rfl, ⟨fun h => Bool.noConfusion h, fun h => absurd (chkF_0.2 h.1) h1⟩⟩, hO7.below⟩
theorem possibleV_dec (hV : Valid5 f nq) : Calls Try.prog 41 #[.agg #[.slice ga f.n gc, .slice ba f.m bc, .slice qa nq qc], .slice la ln lc] w fun e w' => e = .returned (.bool (dB (ln = f.n ∧ f.Poss l))) ∧ Below w.heap.size w w' :=
 callsDB ((possibleP_any ga ba qa la gc bc qc nq ln lc f l w hlg hF hln hl).mono fun _ _ ⟨⟨b, h1, h2⟩, h3⟩ => (⟨⟨b, h1, h2.trans ⟨And.right, fun h => ⟨hV, h⟩⟩⟩, h3⟩ : (∃ b, _ = Ending.returned (.bool b) ∧ (b = true ↔ ln = f.n ∧ f.Poss l)) ∧ Below _ _ _))
theorem stableV_dec (hV : Valid5 f nq) : Calls Try.prog 42 #[.agg #[.slice ga f.n gc, .slice ba f.m bc, .slice qa nq qc], .slice la ln lc] w fun e w' => e = .returned (.bool (dB (ln = f.n ∧ f.Stab l))) ∧ Below w.heap.size w w' :=
 callsDB ((stableP_any ga ba qa la gc bc qc nq ln lc f l w hlg hF hln hl).mono fun _ _ ⟨⟨b, h1, h2⟩, h3⟩ => (⟨⟨b, h1, h2.trans ⟨And.right, fun h => ⟨hV, h⟩⟩⟩, h3⟩ : (∃ b, _ = Ending.returned (.bool b) ∧ (b = true ↔ ln = f.n ∧ f.Stab l)) ∧ Below _ _ _))
theorem blocksV_any : Calls Try.prog 43 #[.agg #[.slice ga f.n gc, .slice ba f.m bc, .slice qa nq qc], .slice la ln lc] w fun e w' => ∃ ao cap c je Lb, je = jdE f nq ln l ∧ Lb = blkR f nq ln l ∧ e = .returned (.tuple #[.slice ao (List.length Lb) cap, iv je]) ∧ SRow (.slice ao (List.length Lb) cap) 78 2 (List.length Lb) (prG Lb) c ∧ Own w.heap.size w w' [c] :=
 (blocks5_any ga ba qa la gc bc qc nq ln lc f l w hlg hF hln hl).mono fun _ _ ⟨v, c, h1, h2, h3⟩ => by
  obtain ⟨ao, cap, rfl⟩ := Row.val h2
  exact ⟨ao, cap, c, _, _, rfl, rfl, h1, h2, h3⟩
theorem rankV_any : Calls Try.prog 44 #[.agg #[.slice ga f.n gc, .slice ba f.m bc, .slice qa nq qc], .slice la ln lc] w fun e w' => ∃ x y je, x = rkR f nq ln l (rkA f l f.n) ∧ y = rkR f nq ln l (rkB f l f.n) ∧ je = jdE f nq ln l ∧ e = .returned (.tuple #[iv x, iv y, iv je]) ∧ Below w.heap.size w w' :=
 (rank5p_any ga ba qa la gc bc qc nq ln lc f l w hlg hF hln hl).mono fun _ _ ⟨h1, h2⟩ => ⟨_, _, _, rfl, rfl, rfl, h1, h2⟩
end
set_option maxHeartbeats 2000000 in
theorem refRanks_any (ga ba qa la : Option Addr) (gc bc qc lc : Nat) (f : Fair) (l : Int → Int) (w : World) (hV : Valid5 f f.m) (hF : FAg w.heap.size w ga ba qa f f.m) (hp : f.Poss l) (hl : IAt w.heap.size w la f.n (fun i => iv (l i))) :
  Calls Try.prog 46 #[.agg #[.slice ga f.n gc, .slice ba f.m bc, .slice qa f.m qc], .slice la f.n lc] w fun e w' => e = .returned (.tuple #[iv (rkA f l f.n), iv (rkB f l f.n)]) ∧ Below w.heap.size w w' := by
 obtain ⟨A, C, RB, RO, gb, go, hga, hrow, hra, hel, hcan⟩ := hF.g.open
 obtain ⟨A', C', RB', RO', gb', go', hga', hrow', hra', hel', hcan'⟩ := hF.b.open
 obtain ⟨lb, lo, hla, hlrow⟩ := hl.open
 have hn := hV.sm.n
 refine calls_of_run (F := [(0, _), (1, _)]) Try.func46 rfl Try.ntmps46 rfl rfl ?_
 have hO0 := Own.init w
 refine run_seq <| run_region <| rl_ow rfl (ow_box _ rfl rfl rfl rfl rfl hO0) ?_
 rintro _ w1 ⟨b2, rfl, hO2, hs3⟩
 refine rl_v rfl rfl rfl (ov_assign rfl rfl) <| rl_v rfl rfl rfl (ov_assign rfl rfl) <| rl_nil <| run_seq <| run_region <| rl_v rfl rfl rfl (ov_assign rfl rfl) <| rl_v rfl rfl rfl (ov_assign rfl rfl) <| rl_nil <| run_seq <| run_seq <| run_region <| rl_v rfl rfl rfl (ov_assign rfl rfl) <| rl_nil <| run_block <| Run.keep [1, 2, 6, 7, 8] (F' := [(1, _), (2, _), (6, _), (7, _), (8, _)]) rfl <| run_loop3 (fun (k : Int) (x : Int) (y : Int) => [(8, .int .i64 k), (6, .int .i64 x), (7, .int .i64 y)]) [1, 2] (fun (k : Int) (x : Int) (y : Int) (w4 : World) => 0 ≤ k ∧ k ≤ f.n ∧ x = rkA f l k ∧ y = rkB f l k ∧ Own w.heap.size w w4 [some (lch b2 25 [.slice ga f.n gc, .slice ba f.m bc, .slice qa f.m qc])]) (fun (k : Int) (x : Int) (y : Int) => ((f.n : Int) - k).toNat) (0) (0) (0) ?_ (And.intro (by exact slot_int rfl (by first | omega)) (And.intro (by exact slot_int rfl (by first | omega)) (And.intro (by exact slot_int rfl (by first | omega)) (And.intro rfl (And.intro rfl trivial))))) ?_
 ·exact ⟨by omega, by omega, rfl, rfl, hO2⟩
 intro k x y w4 hIw4 ih5
 obtain ⟨hk0, hk1, hx, hy, hO⟩ := hIw4
 show Run _ _ _ _ [(8, _), (6, _), (7, _), (1, _), (2, _)] _ _
 refine run_seq <| run_seq <| run_region <| rl_v rfl rfl rfl (ov_move rfl rfl) <| rl_v rfl rfl rfl (ov_move rfl rfl) <| rl_v rfl rfl rfl (ov_len rfl Try.underlying23 rfl) <| rl_v rfl rfl rfl (ov_lss rfl rfl rfl) <| rl_nil ?_
 first | refine run_cond_dec rfl (fun h2 => ?_) (fun h2 => ?_) | refine run_cond rfl (fun h2 => ?_) (fun h2 => ?_)
 ·have hat := hp.at_ k hk0 h2
  have hA : rkA f l (k + 1) = rkA f l k + if 0 ≤ l k then f.rg k (l k) else 0 := sm_succ _ hk0
  have hB : rkB f l (k + 1) = rkB f l k + if 0 ≤ l k then f.rb (l k) k else 0 := sm_succ _ hk0
  have hA1 := rkA_bd (f := f) (l := l) hV hk0 hk1
  have hB1 := rkB_bd (f := f) (l := l) hV hp hk0 hk1
  refine run_skip <| run_seq <| run_block <| run_seq <| run_region <| rl_v rfl rfl rfl (ov_move rfl rfl) <| rl_v rfl rfl rfl (ov_move rfl rfl) <| rl_v rfl rfl rfl (ov_index1 rfl Try.underlying23 (by kernel_rfl) rfl rfl ⟨by omega, by omega⟩ (by exact hla (by omega))) ?_
  refine rl_v rfl rfl rfl (ov_load rfl Try.underlying3 rfl rfl (by exact hlrow _ hO.below _ (by omega) (by omega))) ?_
  refine rl_v rfl rfl rfl (ov_geq rfl rfl rfl) <| rl_nil ?_
  first | refine run_cond_dec rfl (fun h3 => ?_) (fun h3 => ?_) | refine run_cond rfl (fun h3 => ?_) (fun h3 => ?_)
  ·have hm2 : l k < f.m := by omega
   have e3 := hV.sm.gl k hk0 h2
   have e4 := hV.sm.bl (l k) h3 hm2
   have e5 := rk_rng (f.ge k) (l k) (f.gl k)
   have e6 := rk_rng (f.be (l k)) k (f.bl (l k))
   have e7 : f.rg k (l k) = rk (f.ge k) (f.gl k) (l k) := rfl
   have e8 : f.rb (l k) k = rk (f.be (l k)) (f.bl (l k)) k := rfl
   rw [if_pos h3] at hA hB
   subst hx hy
   refine run_seq <| run_class (Cl5 w.heap.size w [some (lch b2 25 [.slice ga f.n gc, .slice ba f.m bc, .slice qa f.m qc])]) (⟨hO.drew⟩) mixed (by kernel_rfl) ?_
   refine rk_v rfl rfl rfl (fun wq hQ => ov_move rfl rfl) ?_
   refine rk_v rfl rfl rfl (fun wq hQ => ov_fieldS rfl Try.underlying25 rfl (fo := 0) rfl (by kernel_rfl) rfl) ?_
   refine rk_v rfl rfl rfl (fun wq hQ => ov_load rfl Try.underlying22 rfl rfl (by exact (hQ.own).cellL 0 rfl (off := 0) rfl)) ?_
   refine rk_v rfl rfl rfl (fun wq hQ => ov_move rfl rfl) ?_
   refine rk_v rfl rfl rfl (fun wq hQ => ov_index1 rfl Try.underlying22 (by kernel_rfl) rfl rfl ⟨by omega, by omega⟩ (by exact hga (by omega))) ?_
   refine rk_v rfl rfl rfl (fun wq hQ => ov_load rfl Try.underlying23 rfl rfl (by exact hrow _ (hQ.own).below _ (by omega) (by omega))) ?_
   refine rk_v rfl rfl rfl (fun wq hQ => ov_move rfl rfl) ?_
   refine rk_v rfl rfl rfl (fun wq hQ => ov_move rfl rfl) ?_
   refine rk_v rfl rfl rfl (fun wq hQ => ov_index1 rfl Try.underlying23 (by kernel_rfl) rfl rfl ⟨by omega, by omega⟩ (by exact hla (by omega))) ?_
   refine rk_v rfl rfl rfl (fun wq hQ => ov_load rfl Try.underlying3 rfl rfl (by exact hlrow _ (hQ.own).below _ (by omega) (by omega))) ?_
   refine rk_call callable_19 rfl rfl rfl rfl rfl rfl (fun wq hQ => (rank5_any (A k) (f.gl k) (C k) (f.ge k) (l k) _ (by omega) ((hQ.own).iatF (hcan k hk0 h2))).mono fun _ _ h => ⟨h.1, ⟨(hQ.own).past h.2⟩⟩) ?_
   refine rk_v rfl rfl rfl (fun wq hQ => ov_add rfl rfl rfl (by omega)) ?_
   refine rk_v rfl rfl rfl (fun wq hQ => ov_assign rfl rfl) ?_
   refine rk_nil (fun w9 hQ => ?_)
   refine run_class (Cl5 w.heap.size w [some (lch b2 25 [.slice ga f.n gc, .slice ba f.m bc, .slice qa f.m qc])]) (⟨(hQ.own).drew⟩) mixed (by kernel_rfl) ?_
   refine rk_v rfl rfl rfl (fun wq hQ => ov_move rfl rfl) ?_
   refine rk_v rfl rfl rfl (fun wq hQ => ov_fieldS rfl Try.underlying25 rfl (fo := 1) rfl (by kernel_rfl) rfl) ?_
   refine rk_v rfl rfl rfl (fun wq hQ => ov_load rfl Try.underlying22 rfl rfl (by exact (hQ.own).cellL 0 rfl (off := 1) rfl)) ?_
   refine rk_v rfl rfl rfl (fun wq hQ => ov_move rfl rfl) ?_
   refine rk_v rfl rfl rfl (fun wq hQ => ov_move rfl rfl) ?_
   refine rk_v rfl rfl rfl (fun wq hQ => ov_index1 rfl Try.underlying23 (by kernel_rfl) rfl rfl ⟨by omega, by omega⟩ (by exact hla (by omega))) ?_
   refine rk_v rfl rfl rfl (fun wq hQ => ov_load rfl Try.underlying3 rfl rfl (by exact hlrow _ (hQ.own).below _ (by omega) (by omega))) ?_
   refine rk_v rfl rfl rfl (fun wq hQ => ov_index1 rfl Try.underlying22 (by kernel_rfl) rfl rfl ⟨by omega, by omega⟩ (by exact hga' (by omega))) ?_
   refine rk_v rfl rfl rfl (fun wq hQ => ov_load rfl Try.underlying23 rfl rfl (by exact hrow' _ (hQ.own).below _ (by omega) (by omega))) ?_
   refine rk_v rfl rfl rfl (fun wq hQ => ov_move rfl rfl) ?_
   refine rk_call callable_19 rfl rfl rfl rfl rfl rfl (fun wq hQ => (rank5_any (A' (l k)) (f.bl (l k)) (C' (l k)) (f.be (l k)) k _ (by omega) ((hQ.own).iatF (hcan' (l k) h3 hm2))).mono fun _ _ h => ⟨h.1, ⟨(hQ.own).past h.2⟩⟩) ?_
   refine rk_v rfl rfl rfl (fun wq hQ => ov_add rfl rfl rfl (by omega)) ?_
   refine rk_v rfl rfl rfl (fun wq hQ => ov_assign rfl rfl) ?_
   refine rk_nil (fun w13 hQ2 => ?_)
   refine run_inBlock <| run_region <| rl_v rfl rfl rfl (ov_move rfl rfl) <| rl_v rfl rfl rfl (ov_add rfl rfl rfl (by omega)) ?_
   refine rl_v rfl rfl rfl (ov_assign rfl rfl) <| rl_nil ?_
   refine Run.use (ih5 (k + 1) _ _ _ ?_ ?_) (And.intro (by exact slot_int rfl (by first | omega)) (And.intro (by rfl) (And.intro (by rfl) (And.intro rfl (And.intro rfl trivial)))))
   ·first | omega | (dsimp only; omega)
   ·exact ⟨by omega, by omega, by rw [hA]; rfl, by rw [hB]; rfl, (hQ2.own)⟩
  ·rw [if_neg h3] at hA hB
   refine run_skip <| run_inBlock <| run_region <| rl_v rfl rfl rfl (ov_move rfl rfl) <| rl_v rfl rfl rfl (ov_add rfl rfl rfl (by omega)) ?_
   refine rl_v rfl rfl rfl (ov_assign rfl rfl) <| rl_nil ?_
   refine Run.use (ih5 (k + 1) (x) (y) _ ?_ ?_) (And.intro (by exact slot_int rfl (by first | omega)) (And.intro (by exact slot_int rfl (by first | omega)) (And.intro (by exact slot_int rfl (by first | omega)) (And.intro rfl (And.intro rfl trivial)))))
   ·first | omega | (dsimp only; omega)
   ·exact ⟨by omega, by omega, by omega, by omega, hO⟩
 ·obtain rfl : k = f.n := by omega
  refine run_exit rfl <| run_seq <| run_region <| rl_v rfl rfl rfl (ov_move rfl rfl) <| rl_v rfl rfl rfl (ov_move rfl rfl) <| rl_v rfl rfl rfl (ov_assign rfl rfl) <| rl_v rfl rfl rfl (ov_assign rfl rfl) <| rl_nil <| run_ret Try.func46 (res2 Try.results46 rfl rfl) ?_
  exact ⟨by rw [hx, hy], hO.below⟩
end Go.Proofs.Ytlldeifbfpmbaaa
