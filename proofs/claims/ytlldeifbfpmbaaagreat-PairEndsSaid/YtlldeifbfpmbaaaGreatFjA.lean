import Derived.Test.YtlldeifbfpmbaaaGreatFiC
import Derived.Test.YtlldeifbfpmbaaaGreatFbJ
import Derived.Test.YtlldeifbfpmbaaaGreatTb9
import Derived.Laws.StructEq
set_option maxRecDepth 100000
namespace Go.Proofs.YtlldeifbfpmbaaaGreat
open Go.RowKit Go.Proofs Go.MapKept
theorem stable5_any (tb : Nat) (la : Option Addr) (ln lc : Nat) (f : Fair) (l : Int → Int) (w : World) (hV : Valid5 f f.m) (hP : PT w.heap.size w tb f) (hln : ln ≤ 1000000) (hl : IAt w.heap.size w la ln (fun i => iv (l i))) :
  Calls Tryz.prog 56 #[ptr tb, .slice la ln lc] w fun e w' => (∃ b, e = .returned (.bool b) ∧ (b = true ↔ ln = f.n ∧ f.Stab l)) ∧ Below w.heap.size w w' := by
 refine calls_of_run (F := [(0, _), (1, _)]) Tryz.func56 rfl Tryz.ntmps56 rfl rfl ?_
 have hO0 := Own.init w
 refine run_seq <| run_region <| rl_v rfl rfl rfl (ov_assign rfl rfl) <| rl_nil <| run_seq <| run_region <| rl_v rfl rfl rfl (ov_move rfl rfl) <| rl_v rfl rfl rfl (ov_move rfl rfl) ?_
 refine rl_call callable_53 rfl rfl rfl rfl rfl rfl (possible5_any tb la ln lc f l _ hV (hO0.pt hP) hln (hO0.iatF hl)) (fun e1 w2 hp3 => ?_)
 obtain ⟨⟨r, rfl, hr⟩, hb1⟩ := hp3
 refine ⟨_, rfl, ?_⟩
 have hO4 := hO0.past hb1
 refine rl_v rfl rfl rfl (ov_move rfl rfl) ?_
 first | refine rl_split_dec 8 rfl (fun q1 => ?_) (fun q1 => ?_) | refine rl_split 8 rfl (fun q1 => ?_) (fun q1 => ?_)
 ·refine rl_gv rfl rfl rfl rfl rfl (ov_move rfl rfl) <| rl_gv rfl rfl rfl rfl rfl (ov_move rfl rfl) ?_
  have hp := hr.1 q1
  obtain rfl : ln = f.n := hp.1
  refine rl_gcall callable_54 rfl rfl rfl rfl rfl rfl rfl rfl (blocking5_any tb la lc f l _ hV (hO4.pt hP) (hO4.iatF hl) hp.2) (fun e6 w7 hp8 => ?_)
  obtain ⟨v, c, rfl, hrv, hO1⟩ := hp8
  refine ⟨_, rfl, ?_⟩
  have hO9 := hO4.join hO1
  obtain ⟨va, vc, rfl⟩ := Row.val hrv
  have hnil := blkTo_nil (f := f) (l := l) f.n
  refine rl_gv rfl rfl rfl rfl rfl (ov_len rfl Tryz.underlying41 rfl) <| rl_gv rfl rfl rfl rfl rfl (ov_eql rfl rfl rfl) <| rl_v rfl rfl rfl (ov_pick_t rfl rfl rfl) <| rl_v rfl rfl rfl (ov_assign rfl rfl) <| rl_nil <| run_ret Tryz.func56 (res1 Tryz.results56 rfl) ?_
  exact ⟨⟨_, rfl, by rw [decide_eq_true_iff]; exact ⟨fun h => ⟨rfl, hp.2, fun g b g0 g1 b0 b1 => hnil.1 (List.length_eq_zero_iff.1 (by omega)) g b g0 g1 b0 b1⟩, fun h => by rw [hnil.2 fun i c i0 i1 c0 c1 => h.2.none i c i0 i1 c0 c1]; rfl⟩⟩, hO9.tail.below⟩
 ·refine rl_gskip rfl rfl rfl rfl rfl rfl <| rl_gskip rfl rfl rfl rfl rfl rfl <| rl_gskip rfl rfl rfl rfl rfl rfl <| rl_gskip rfl rfl rfl rfl rfl rfl <| rl_gskip rfl rfl rfl rfl rfl rfl <| rl_v rfl rfl rfl (ov_pick_f rfl rfl rfl) <| rl_v rfl rfl rfl (ov_assign rfl rfl) <| rl_nil <| run_ret Tryz.func56 (res1 Tryz.results56 rfl) ?_
  exact ⟨⟨false, rfl, ⟨fun h => Bool.noConfusion h, fun h => by rw [hr.2 ⟨h.1, h.2.poss⟩] at q1; exact Bool.noConfusion q1⟩⟩, hO4.below⟩
section
variable (ga ba qa la : Option Addr) (gc bc qc nq ln lc : Nat) (f : Fair) (l : Int → Int) (w : World) (hlg : Lg5 f nq) (hF : FAg w.heap.size w ga ba qa f nq) (hln : ln ≤ 1000000) (hl : IAt w.heap.size w la ln (fun i => iv (l i)))
include hlg hF
include hln hl
end
end Go.Proofs.YtlldeifbfpmbaaaGreat
set_option maxRecDepth 100000
namespace Go.Proofs.YtlldeifbfpmbaaaGreat
open Go.RowKit Go.Proofs Go.MapKept
theorem eqF_same5 {P : Program} {w : World} {d : Nat} {xs : Array Value} : ∀ (fs : List Field), (∀ f ∈ fs, ∃ (kk : IntKind) (m : Int), P.underlying f.type = some (.int kk) ∧ xs[f.offset]? = some (.int kk m)) → (Op.eqFields (d + 1) xs xs fs).run P w = .ok true w
 | [], _ => rfl
 | f :: fs, h => by
  obtain ⟨kk, m, hu, hx⟩ := h f (List.mem_cons_self ..)
  have hp : (part f.type xs f.offset).run P w = .ok (.int kk m) w := by simp [part, isAgg, run_underlying hu, hx]
  have he : (Op.equalIn (d + 1) f.type (.int kk m) (.int kk m)).run P w = .ok true w := by rw [run_equalIn_int w d f.type kk kk m m hu]; simp
  have ih := eqF_same5 (w := w) (d := d) fs fun g hg => h g (List.mem_cons_of_mem _ hg)
  unfold Op.eqFields
  split
  ·simp [hp, he, ih, Result.andThen]
  ·exact ih
theorem ov_neqS5 {N : Nat} {o : Oper} {F : Fr} {w : World} {x y : Operand} {U T : TypeId} {xs : Array Value} {fs : Array Field} (ho : o.op = .binOp .neq T x y U) (hT : Tryz.prog.underlying T = some (.struct fs)) (hsm : ∀ f ∈ fs.toList, ∃ (kk : IntKind) (m : Int), Tryz.prog.underlying f.type = some (.int kk) ∧ xs[f.offset]? = some (.int kk m))
  (hp : Tryz.prog.stoodInHeld T = false) (hm : Tryz.prog.eqGuardType Tryz.prog.depth T = false) (hx : Fr.ev F x = some (.agg xs)) (hy : Fr.ev F y = some (.agg xs)) : OpV Tryz.prog N o F w (.bool false) := by
 intro r hr
 have hfo : Tryz.prog.fieldsOf T = fs := by unfold Program.fieldsOf; rw [hT]
 have h1 : (Op.equalIn 10000 T (.agg xs) (.agg xs)).run Tryz.prog w = .ok true w := by
  rw [run_equalIn_struct w 9999 T _ _ (by rw [hfo]; exact hT) hp, hfo]
  exact eqF_same5 (d := 9998) _ hsm
 unfold execOp
 have hg := run_eqGuard_agg (P := Tryz.prog) w .neq T x y xs xs hm
 simp only [ho, hr.ev hx, hr.ev hy, Sem.run_bind, hg, Result.andThen_ok, run_neq_struct, h1]
 simp
theorem samePr (a b : Int) : ∀ f ∈ (Tryz.prog.fieldsOf 47).toList, ∃ (kk : IntKind) (q : Int), Tryz.prog.underlying f.type = some (.int kk) ∧ (#[iv a, iv b] : Array Value)[f.offset]? = some (.int kk q) := by
 unfold Program.fieldsOf
 rw [Tryz.underlying47]
 intro f hf
 simp only [List.mem_cons, List.not_mem_nil, or_false] at hf
 rcases hf with rfl | rfl
 ·exact ⟨.i64, a, Tryz.underlying3, rfl⟩
 ·exact ⟨.i64, b, Tryz.underlying3, rfl⟩
theorem ov_neqPr {N : Nat} {o : Oper} {F : Fr} {w : World} {x y : Operand} {U : TypeId} {a b : Int} (ho : o.op = .binOp .neq 47 x y U) (hx : Fr.ev F x = some (.agg #[iv a, iv b])) (hy : Fr.ev F y = some (.agg #[iv a, iv b])) : OpV Tryz.prog N o F w (.bool false) :=
 ov_neqS5 ho (by unfold Program.fieldsOf; rw [Tryz.underlying47]) (samePr a b) (by kernel_rfl) (by kernel_rfl) hx hy
noncomputable def dB (p : Prop) : Bool := @decide p (Classical.propDecidable p)
theorem dB_iff {p : Prop} : dB p = true ↔ p := @decide_eq_true_iff p (Classical.propDecidable p)
theorem dB_of {b : Bool} {p : Prop} (h : b = true ↔ p) : b = dB p := by
 cases b
 ·cases e : dB p
  ·rfl
  ·exact h.2 (dB_iff.1 e)
 ·exact (dB_iff.2 (h.1 rfl)).symm
theorem callsDB {f : FuncId} {args : Array Value} {w : World} {p : Prop} {B : World → Prop} (h : Calls Tryz.prog f args w fun e w' => (∃ b, e = .returned (.bool b) ∧ (b = true ↔ p)) ∧ B w') : Calls Tryz.prog f args w fun e w' => e = .returned (.bool (dB p)) ∧ B w' :=
 h.mono fun _ _ ⟨⟨b, h1, h2⟩, h3⟩ => ⟨by rw [h1, dB_of h2], h3⟩
section
variable (ga ba qa la : Option Addr) (gc bc qc nq ln lc : Nat) (f : Fair) (l : Int → Int) (w : World) (hlg : Lg5 f nq) (hF : FAg w.heap.size w ga ba qa f nq) (hln : ln ≤ 1000000) (hl : IAt w.heap.size w la ln (fun i => iv (l i)))
include hlg hF hln hl
end
end Go.Proofs.YtlldeifbfpmbaaaGreat
