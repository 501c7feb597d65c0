import Derived.Test.YteagflekbbchhaaReJ
import Derived.Laws.StructEq
set_option maxRecDepth 100000
namespace Go.Proofs.Yteagflekbbchhaa
open Go.RowKit Go.Proofs
theorem eqF_same {P : Program} {w : World} {d : Nat} {xs : Array Value} : ∀ (fs : List Field), (∀ f ∈ fs, ∃ (kk : IntKind) (m : Int), P.underlying f.type = some (.int kk) ∧ xs[f.offset]? = some (.int kk m)) → (Op.eqFields (d + 1) xs xs fs).run P w = .ok true w
 | [], _ => rfl
 | f :: fs, h => by
  obtain ⟨kk, m, hu, hx⟩ := h f (List.mem_cons_self ..)
  have hp : (part f.type xs f.offset).run P w = .ok (.int kk m) w := by simp [part, isAgg, run_underlying hu, hx]
  have he : (Op.equalIn (d + 1) f.type (.int kk m) (.int kk m)).run P w = .ok true w := by rw [run_equalIn_int w d f.type kk kk m m hu]; simp
  have ih := eqF_same (w := w) (d := d) fs fun g hg => h g (List.mem_cons_of_mem _ hg)
  unfold Op.eqFields
  split
  ·simp [hp, he, ih, Result.andThen]
  ·exact ih
theorem ov_neqS {N : Nat} {o : Oper} {F : Fr} {w : World} {x y : Operand} {U T : TypeId} {xs : Array Value} {fs : Array Field} (ho : o.op = .binOp .neq T x y U) (hT : Try.prog.underlying T = some (.struct fs)) (hsm : ∀ f ∈ fs.toList, ∃ (kk : IntKind) (m : Int), Try.prog.underlying f.type = some (.int kk) ∧ xs[f.offset]? = some (.int kk m))
  (hp : Try.prog.stoodInHeld T = false) (hm : Try.prog.eqGuardType Try.prog.depth T = false) (hx : Fr.ev F x = some (.agg xs)) (hy : Fr.ev F y = some (.agg xs)) : OpV Try.prog N o F w (.bool false) := by
 intro r hr
 have hfo : Try.prog.fieldsOf T = fs := by unfold Program.fieldsOf; rw [hT]
 have h1 : (Op.equalIn 10000 T (.agg xs) (.agg xs)).run Try.prog w = .ok true w := by
  rw [run_equalIn_struct w 9999 T _ _ (by rw [hfo]; exact hT) hp, hfo]
  exact eqF_same (d := 9998) _ hsm
 unfold execOp
 have hg := run_eqGuard_agg (P := Try.prog) w .neq T x y xs xs hm
 simp only [ho, hr.ev hx, hr.ev hy, Sem.run_bind, hg, Result.andThen_ok, run_neq_struct, h1]
 simp
theorem sameM (m : Ms) : ∀ f ∈ (Try.prog.fieldsOf 136).toList, ∃ (kk : IntKind) (q : Int), Try.prog.underlying f.type = some (.int kk) ∧ (msl m).toArray[f.offset]? = some (.int kk q) := by
 unfold Program.fieldsOf
 rw [Try.underlying136]
 intro f hf
 simp only [List.mem_cons, List.not_mem_nil, or_false] at hf
 rcases hf with rfl | rfl | rfl | rfl
 ·exact ⟨.i64, m.f, Try.underlying3, rfl⟩
 ·exact ⟨.i64, m.t, Try.underlying3, rfl⟩
 ·exact ⟨.i64, m.k, Try.underlying3, rfl⟩
 ·exact ⟨.i64, m.d, Try.underlying3, rfl⟩
theorem sameD (d : Dl) : ∀ f ∈ (Try.prog.fieldsOf 34).toList, ∃ (kk : IntKind) (q : Int), Try.prog.underlying f.type = some (.int kk) ∧ (dll d).toArray[f.offset]? = some (.int kk q) := by
 unfold Program.fieldsOf
 rw [Try.underlying34]
 intro f hf
 simp only [List.mem_cons, List.not_mem_nil, or_false] at hf
 rcases hf with rfl | rfl | rfl | rfl
 ·exact ⟨.i64, d.b, Try.underlying3, rfl⟩
 ·exact ⟨.i64, d.s, Try.underlying3, rfl⟩
 ·exact ⟨.i64, d.m, Try.underlying2, rfl⟩
 ·exact ⟨.i64, d.g, Try.underlying2, rfl⟩
theorem ov_neqM {N : Nat} {o : Oper} {F : Fr} {w : World} {x y : Operand} {U : TypeId} {m : Ms} (ho : o.op = .binOp .neq 136 x y U) (hx : Fr.ev F x = some (.agg (msl m).toArray)) (hy : Fr.ev F y = some (.agg (msl m).toArray)) : OpV Try.prog N o F w (.bool false) :=
 ov_neqS ho (by unfold Program.fieldsOf; rw [Try.underlying136]) (sameM m) (by kernel_rfl) (by kernel_rfl) hx hy
theorem ov_neqD {N : Nat} {o : Oper} {F : Fr} {w : World} {x y : Operand} {U : TypeId} {d : Dl} (ho : o.op = .binOp .neq 34 x y U) (hx : Fr.ev F x = some (.agg (dll d).toArray)) (hy : Fr.ev F y = some (.agg (dll d).toArray)) : OpV Try.prog N o F w (.bool false) :=
 ov_neqS ho (by unfold Program.fieldsOf; rw [Try.underlying34]) (sameD d) (by kernel_rfl) (by kernel_rfl) hx hy
theorem ov_eqlB {P : Program} {N : Nat} {o : Oper} {F : Fr} {w : World} {T U : TypeId} {x y : Operand} {a b : Bool} (ho : o.op = .binOp .eql T x y U) (hT : P.underlying T = some .bool) (hx : Fr.ev F x = some (.bool a)) (hy : Fr.ev F y = some (.bool b)) : OpV P N o F w (.bool (decide (a = b))) := by
 intro r hr
 unfold execOp
 have h1 := run_equal_bool (P := P) w T a b hT
 have e : (a == b) = decide (a = b) := by cases a <;> cases b <;> rfl
 simp only [ho, hr.ev hx, hr.ev hy, Sem.run_bind, eqGuard]
 simp [binOp, h1, Result.andThen, e]
theorem at_app {R T : List (Option Blk)} {x : Option Blk} (h : R[0]? = some x) : (R ++ T)[0]? = some x := by
 cases R with
 | nil => cases h
 | cons a R => exact h
theorem upNe (b : Bool) : ¬ (!b) = b := by cases b <;> decide
theorem longs_same (a1 a2 : Option Addr) (n c1 c2 B : Nat) (G : Int → Int) (H : List (Option Blk)) (w0 w : World) (hO : Own B w0 w H) (h1 : SrcI H a1 n G) (h2 : SrcI H a2 n G) (hn : n ≤ 4000000000000) :
  Calls Try.prog 25 #[.slice a1 n c1, .slice a2 n c2] w fun e w' => e = .returned (.bool true) ∧ Own B w0 w' H :=
 (longs_any a1 a2 n n c1 c2 0 0 B G G H w0 w hO h1 h2 hn).mono fun e w' ⟨b, e1, e2, e3⟩ => ⟨by rw [e1, e2.2 ⟨rfl, fun _ _ _ => rfl⟩], e3⟩
theorem WAt.drewW {B : Nat} {w0 w : World} {A : WA} {X : MW} {Pl R : List (Option Blk)} (h : WAt B w0 w A X Pl R) : WAt B w0 w.drew A X Pl R := by
 obtain ⟨K, N, hO, hK, hPl⟩ := h
 exact ⟨K, N, hO.drew, hK, hPl⟩
theorem WAt.call {f : FuncId} {args : Array Value} {v : Value} {B : Nat} {w0 w : World} {A : WA} {X : MW} {Pl R : List (Option Blk)} (h : WAt B w0 w A X Pl R)
  (hc : ∀ H, Own B w0 w H → (∀ x ∈ R, x ∈ H) → Calls Try.prog f args w fun e w' => e = .returned v ∧ Own B w0 w' H) :
  Calls Try.prog f args w fun e w' => e = .returned v ∧ WAt B w0 w' A X Pl R := by
 obtain ⟨K, N, hO, hK, hPl⟩ := h.fr
 exact (hc _ hO (memL fun x h => h)).mono fun e w' h => ⟨h.1, WAt.unfr h.2 hK hPl⟩
theorem rat3 {X : MW} {K : RK} {n d : Int} {B : Nat} {N H : List (Option Blk)} {w0 w : World} (hn : n = 1 ∨ n = 2) (hG : Good X) (hL : LInv X) (hO : Own B w0 w H) (hN : ∀ x ∈ N, x ∈ H) (hK : XIn N X K) :
  Calls Try.prog 33 #[rwv X K, iv n, iv d] w fun e w' => e = .returned (iv ((X.lg n).state d)) ∧ Own B w0 w' H := by
 have := rat_any X K n d B N H w0 w hn (hG.len (N3.s hn)) hO hN hK
 rwa [at_state hL hG hn d] at this
end Go.Proofs.Yteagflekbbchhaa
