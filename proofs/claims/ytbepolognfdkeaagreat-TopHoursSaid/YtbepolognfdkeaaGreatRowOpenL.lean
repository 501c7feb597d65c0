import Derived.Test.YtbepolognfdkeaaGreatEff
import Derived.Test.YtbepolognfdkeaaGreatTab
import Derived.Test.YtbepolognfdkeaaGreatChecked
import Derived.Test.YtbepolognfdkeaaGreatRows
import Derived.ProofKit
import Derived.SizedLaws
import Derived.Deep.Modes
import Derived.Deep.Frames
import Derived.Deep.Matrix
import Derived.Carry
import Derived.Lib.SmallJoins
import Derived.Test.YtbepolognfdkeaaGreatHlM
import Derived.Deep.Slices
set_option maxRecDepth 100000
namespace Go.Proofs.YtbepolognfdkeaaGreat
open Go.Joins Go.ChangeShapes Go.WideShapes Go.ChangeAt Go.RowKit Go.Deep Go.Proofs
theorem Tryz.own : ownKnob Tryz.prog.godebug = none := by kernel_rfl
theorem Tryz.laidOut : laidOutB Tryz.prog = true := by kernel_rfl
theorem cell_lt {w : World} {b off : Nat} {v : Value} (h : w.cell? ⟨b, off, none⟩ = some v) : b < w.heap.size := by
 by_cases hb : b < w.heap.size
 ·exact hb
 ·have : w.heap[b]? = none := by simp; omega
  simp [World.cell?, this] at h
end Go.Proofs.YtbepolognfdkeaaGreat
set_option maxRecDepth 100000
namespace Go.Proofs.YtbepolognfdkeaaGreat
open Go.Joins Go.ChangeShapes Go.WideShapes Go.ChangeAt Go.RowKit Go.Deep Go.Proofs
theorem sat_of7 {W : World} (a : Addr) (s n : Nat) (G : Int → List Value) (hs : 0 < s) (h : ∀ i, i < n → ∀ j, j < s → W.cell? (a.add (i * s + j)) = some ((G (i : Int)).getD j undef)) : SAt W.heap.size W (some a) s n G := by
 by_cases hn : n = 0
 ·subst hn
  have := RAt.nil W.heap.size W (some a) (fun j => (G ((j / s : Nat) : Int)).getD (j % s) undef)
  rw [← Nat.zero_mul s] at this
  exact this
 ·obtain ⟨b, o, sp⟩ := a
  have hsp : sp = none := by simpa [Addr.add] using World.cell?_spot (h 0 (by omega) 0 hs)
  subst hsp
  refine ⟨b, o, fun _ => rfl, fun _ => ?_, fun j hj => ?_⟩
  ·have := h 0 (by omega) 0 hs
   rw [Addr.add_mid] at this
   exact cell_lt this
  ·have h1 : j / s < n := Nat.div_lt_of_lt_mul (by rw [Nat.mul_comm]; exact hj)
   have := h (j / s) h1 (j % s) (Nat.mod_lt _ hs)
   rw [Addr.add_mid] at this
   have hdm := Nat.div_add_mod j s
   rw [Nat.mul_comm] at hdm
   rw [hdm] at this
   exact this
def I64 (x : Int) : Prop := -9223372036854775808 ≤ x ∧ x ≤ 9223372036854775807
theorem open_load4 {H : Type} {enc : TypeId × Value → H} {W : World} {sp : Nat → Bool} {hd : Bool} {n : Nat} {v0 v1 v2 v3 : Value} {y : DataW H × List MemPlace} (h : DataW.trod enc Tryz.prog W 0 sp hd n 58 [v0, v1, v2, v3] = some y) : ∃ d : Int × Int × Int × Int, [v0, v1, v2, v3] = [iv d.1, iv d.2.1, iv d.2.2.1, iv d.2.2.2] ∧ I64 d.1 ∧ I64 d.2.1 ∧ I64 d.2.2.1 ∧ I64 d.2.2.2 := by
 obtain ⟨xs, k, _, _, _, hxl, hf⟩ := DataW.trod_struct Tryz.underlying58 h
 match xs, hxl with
 | [x0, x1, x2, x3], _ =>
  have g0 := hf 0 _ rfl
  have g1 := hf 1 _ rfl
  have g2 := hf 2 _ rfl
  have g3 := hf 3 _ rfl
  obtain ⟨z0, e0, _, w0⟩ := DataW.trod_int Tryz.underlying3 g0
  obtain ⟨z1, e1, _, w1⟩ := DataW.trod_int Tryz.underlying3 g1
  obtain ⟨z2, e2, _, w2⟩ := DataW.trod_int Tryz.underlying3 g2
  obtain ⟨z3, e3, _, w3⟩ := DataW.trod_int Tryz.underlying3 g3
  simp [Lit.wf] at w0 w1 w2 w3
  refine ⟨⟨z0, z1, z2, z3⟩, ?_, w0, w1, w2, w3⟩
  injection (show [v0] = [iv z0] from e0) with e0 _
  injection (show [v1] = [iv z1] from e1) with e1 _
  injection (show [v2] = [iv z2] from e2) with e2 _
  injection (show [v3] = [iv z3] from e3) with e3 _
  rw [e0, e1, e2, e3]
instance : Inhabited (Int × Int × Int × Int) := ⟨(0, 0, 0, 0)⟩
theorem open_loads {H : Type} {enc : TypeId × Value → H} {W : World} {v : Value} {d : DataW H} {ps : List MemPlace} (h : DataW.Trod enc Tryz.prog W 0 (fun _ => true) true 24 v d ps) (hs : ∃ a l c, v = .slice a l c) :
  ∃ (ao : Option Addr) (c : Nat) (l : Lds), v = .slice ao l.n c ∧ l.n ≤ c ∧ l.I64 ∧ SAt W.heap.size W ao 4 l.n (ldF l) := by
 obtain ⟨fuel, hf⟩ := h
 obtain ⟨sa, sl, sc, rfl⟩ := hs
 rcases open_slice Tryz.underlying24 hf with ⟨hcs, _⟩ | ⟨a, len, cap, m, n, D, Pl, hcs, _, hl, _, hm, _, hx⟩
 ·have hv : Value.slice sa sl sc = .slice none 0 0 := by simpa [Value.cells] using hcs
  rw [hv]
  exact ⟨none, 0, ⟨0, fun _ => 0, fun _ => 0, fun _ => 0, fun _ => 0⟩, rfl, Nat.le_refl _, ⟨fun i a b => by have : i < ((0 : Nat) : Int) := b; omega, fun i a b => by have : i < ((0 : Nat) : Int) := b; omega, fun i a b => by have : i < ((0 : Nat) : Int) := b; omega, fun i a b => by have : i < ((0 : Nat) : Int) := b; omega⟩, SAt.nil _ _ _ _ _⟩
 ·have hv : Value.slice sa sl sc = .slice (some a) len cap := by simpa [Value.cells] using hcs
  rw [hv]
  have hlm : len ≤ m := by rw [hm]; simp; omega
  have each : ∀ i, i < len → ∃ q : Int × Int × Int × Int, (∀ j, j < 4 → W.cell? (a.add (i * 4 + j)) = some ([iv q.1, iv q.2.1, iv q.2.2.1, iv q.2.2.2].getD j undef)) ∧ I64 q.1 ∧ I64 q.2.1 ∧ I64 q.2.2.1 ∧ I64 q.2.2.2 := by
   intro i hi
   obtain ⟨cs', h1, h2⟩ := hx i (by omega)
   have cd : Tryz.prog.cellsOf 58 = 4 := by kernel_rfl
   rw [cd] at h1
   obtain ⟨_, hlen, hcell⟩ := World.cells?_some h1
   match cs', hlen with
   | [v0, v1, v2, v3], _ =>
    obtain ⟨dd, e1, hw⟩ := open_load4 h2
    refine ⟨dd, fun j hj => ?_, hw⟩
    have hc := hcell j hj
    rw [add_add] at hc
    rw [hc, e1]
    have : j < [iv dd.1, iv dd.2.1, iv dd.2.2.1, iv dd.2.2.2].length := hj
    rw [List.getD_eq_getElem?_getD, List.getElem?_eq_getElem this]
    rfl
  obtain ⟨q, hq⟩ := choose_lt each
  refine ⟨some a, cap, ⟨len, fun i => (q i.toNat).1, fun i => (q i.toNat).2.1, fun i => (q i.toNat).2.2.1, fun i => (q i.toNat).2.2.2⟩, rfl, hl, ⟨fun i i0 i1 => (hq i.toNat (by have : i < (len : Int) := i1; omega)).2.1, fun i i0 i1 => (hq i.toNat (by have : i < (len : Int) := i1; omega)).2.2.1, fun i i0 i1 => (hq i.toNat (by have : i < (len : Int) := i1; omega)).2.2.2.1, fun i i0 i1 => (hq i.toNat (by have : i < (len : Int) := i1; omega)).2.2.2.2⟩, sat_of7 a 4 len _ (by decide) fun i hi j hj => ?_⟩
  exact (hq i hi).1 j hj
end Go.Proofs.YtbepolognfdkeaaGreat
