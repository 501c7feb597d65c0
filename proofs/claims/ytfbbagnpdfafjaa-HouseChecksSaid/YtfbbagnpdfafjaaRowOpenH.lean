import Derived.Test.YtfbbagnpdfafjaaRowOpenA
import Derived.Test.YtfbbagnpdfafjaaHcV
import Derived.Deep.Slices
set_option maxRecDepth 100000
namespace Go.Proofs.Ytfbbagnpdfafjaa
open Go.Joins Go.ChangeShapes Go.WideShapes Go.ChangeAt Go.RowKit Go.Deep Go.Proofs
def HTab (B : Nat) (w : World) (ao : Option Addr) (n : Nat) (L : Int → Nat) (F : Int → Int → Int) : Prop :=
 ∃ (A : Int → Option Addr) (C : Int → Nat), IAt B w ao n (fun r => .slice (A r) (L r) (C r)) ∧ (∀ r : Int, 0 ≤ r → r < n → L r ≤ C r) ∧ ∀ r : Int, 0 ≤ r → r < n → IAt B w (A r) (L r) (fun c => iv (F r c))
theorem open_htab0 {H : Type} {enc : TypeId × Value → H} {W : World} {v : Value} {y : DataW H × List MemPlace} {fuel : Nat} (hf : DataW.trod enc Try.prog W 0 (fun _ => true) true fuel 23 [v] = some y) :
  ∃ (ao : Option Addr) (G Gc : Nat) (L : Int → Nat) (D : Int → Int → Int), v = .slice ao G Gc ∧ G ≤ Gc ∧ HTab W.heap.size W ao G L D := by
 rcases open_int_rows Try.underlying23 Try.underlying22 Try.underlying2 (by kernel_rfl) (by kernel_rfl) hf with ⟨hcs, hx⟩ | ⟨a, len, cap, A, L, C, Z, hcs, _, hl, hm, hx, hrows⟩
 ·have hv : v = .slice none 0 0 := by
   simpa using hcs
  exact ⟨none, 0, 0, fun _ => 0, fun _ _ => 0, hv, Nat.le_refl _, fun _ => none, fun _ => 0, IAt.nil _ _ _ _, fun r h0 h1 => by omega, fun r h0 h1 => by omega⟩
 ·have hv : v = .slice (some a) len cap := by
   simpa using hcs
  refine ⟨some a, len, cap, fun r => L r.toNat, fun r c => (Z r.toNat).getD c.toNat 0, hv, hl, fun r => A r.toNat, fun r => C r.toNat, iat_of a len (fun r => .slice (A r) (L r) (C r)) (fun i hi => (hrows i (by omega)).1), fun r h0 h1 => (hrows r.toNat (by omega)).2.1, fun r h0 h1 => ?_⟩
  obtain ⟨_, h1', _, _, _, h3, h4⟩ := hrows r.toNat (by omega)
  dsimp only
  cases hA : A r.toNat with
  | none =>
   rw [show L r.toNat = 0 by have := h3 hA; omega]
   exact IAt.nil _ _ _ _
  | some a' =>
   exact iat_of a' (L r.toNat) (fun c => .int .i64 ((Z r.toNat).getD c 0)) (fun i hi => (h4 a' hA).2 i (by omega))
theorem list6 {l : List Value} (h : l.length = 6) : ∃ a b c d e f, l = [a, b, c, d, e, f] := by
 match l, h with
 | [a, b, c, d, e, f], _ => exact ⟨a, b, c, d, e, f, rfl⟩
theorem open_hcfg {H : Type} {enc : TypeId × Value → H} {W : World} {v : Value} {d : DataW H} {ps : List MemPlace} {r : Reach} {b0 : Nat} (hval : Value.okWide Try.prog W r b0 25 v) (h : DataW.Trod enc Try.prog W 0 (fun _ => true) true 25 v d ps) :
  ∃ (mm mn : Int) (pa : Option Addr) (pn pc : Nat) (P : Int → Int) (ma : Option Addr) (mk mc : Nat) (L : Int → Nat) (F : Int → Int → Int) (rt cp : Int), v = .agg (cfL mm mn pa pn pc ma mk mc rt cp).toArray ∧ pn ≤ pc ∧ IAt W.heap.size W pa pn (fun i => iv (P i)) ∧ HTab W.heap.size W ma mk L F := by
 obtain ⟨cs, rfl, hsz⟩ := okWide_struct Try.underlying25 hval
 have hc6 : Try.prog.cellsOf 25 = 6 := by kernel_rfl
 obtain ⟨v0, v1, v2, v3, v4, v5, e6⟩ := list6 (l := cs.toList) (by simpa using hsz.trans hc6)
 have ecs : cs = [v0, v1, v2, v3, v4, v5].toArray := by rw [← e6]
 subst ecs
 obtain ⟨fuel, hf⟩ := h
 replace hf : DataW.trod enc Try.prog W 0 (fun _ => true) true fuel 25 [v0, v1, v2, v3, v4, v5] = some (d, ps) := by simpa [Value.cells] using hf
 obtain ⟨xs, k, _, _, _, hxl, hf⟩ := DataW.trod_struct Try.underlying25 hf
 have ci : Try.prog.cellsOf 3 = 1 := by kernel_rfl
 have cl : Try.prog.cellsOf 2 = 1 := by kernel_rfl
 have cs1 : Try.prog.cellsOf 22 = 1 := by kernel_rfl
 have cs2 : Try.prog.cellsOf 23 = 1 := by kernel_rfl
 match xs, hxl with
 | [x0, x1, x2, x3, x4, x5], _ =>
  have g0 := hf 0 _ rfl
  have g1 := hf 1 _ rfl
  have g2 := hf 2 _ rfl
  have g3 := hf 3 _ rfl
  have g4 := hf 4 _ rfl
  have g5 := hf 5 _ rfl
  simp [ci, cl, cs1, cs2] at g0 g1 g2 g3 g4 g5
  obtain ⟨z0, e0, _⟩ := DataW.trod_int Try.underlying3 g0
  obtain ⟨z1, e1, _⟩ := DataW.trod_int Try.underlying3 g1
  obtain ⟨pa, pn, pc, P, rfl, hpc, hP⟩ := open_row0 g2
  obtain ⟨ma, mk, mc, L, F, rfl, _, hF⟩ := open_htab0 g3
  obtain ⟨z4, e4, _⟩ := DataW.trod_int Try.underlying2 g4
  obtain ⟨z5, e5, _⟩ := DataW.trod_int Try.underlying2 g5
  simp only [List.cons.injEq, and_true] at e0 e1 e4 e5
  subst e0; subst e1; subst e4; subst e5
  exact ⟨z0, z1, pa, pn, pc, P, ma, mk, mc, L, F, z4, z5, rfl, hpc, hP, hF⟩
structure HAct where
 k : Int
 a : Int
 b : Int
 m : Int
 q : Int
 p : Int
 n : Int
instance : Inhabited HAct := ⟨⟨0, 0, 0, 0, 0, 0, 0⟩⟩
def HAct.l (x : HAct) : List Value := actL x.k x.a x.b x.m x.q x.p x.n
end Go.Proofs.Ytfbbagnpdfafjaa
