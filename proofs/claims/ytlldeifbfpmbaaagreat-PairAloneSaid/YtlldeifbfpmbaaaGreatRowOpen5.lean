import Derived.Test.YtlldeifbfpmbaaaGreatEff
import Derived.Test.YtlldeifbfpmbaaaGreatTab
import Derived.Test.YtlldeifbfpmbaaaGreatChecked
import Derived.Test.YtlldeifbfpmbaaaGreatRows
import Derived.ProofKit
import Derived.SizedLaws
import Derived.Deep.Modes
import Derived.Deep.Frames
import Derived.Deep.Matrix
import Derived.Carry
import Derived.Lib.SmallJoins
import Derived.Test.YtlldeifbfpmbaaaGreatFgC
import Derived.Deep.Slices
set_option maxRecDepth 100000
namespace Go.Proofs.YtlldeifbfpmbaaaGreat
open Go.Joins Go.ChangeShapes Go.WideShapes Go.ChangeAt Go.RowKit Go.Deep Go.Proofs
theorem Tryz.own : ownKnob Tryz.prog.godebug = none := by kernel_rfl
theorem Tryz.laidOut : laidOutB Tryz.prog = true := by kernel_rfl
theorem cell_lt {w : World} {b off : Nat} {v : Value} (h : w.cell? ⟨b, off, none⟩ = some v) : b < w.heap.size := by
 by_cases hb : b < w.heap.size
 ·exact hb
 ·have : w.heap[b]? = none := by simp; omega
  simp [World.cell?, this] at h
theorem iat_of {W : World} (a : Addr) (n : Nat) (f : Nat → Value) (h : ∀ i, i < n → W.cell? (a.add i) = some (f i)) : IAt W.heap.size W (some a) n (fun i => f i.toNat) := by
 by_cases hn : n = 0
 ·subst hn; exact IAt.nil _ _ _ _
 ·obtain ⟨b, o, s⟩ := a
  have hs : s = none := by simpa [Addr.add] using World.cell?_spot (h 0 (by omega))
  subst hs
  refine ⟨b, o, fun _ => rfl, fun _ => ?_, fun i hi => ?_⟩
  ·have := h 0 (by omega)
   rw [Addr.add_mid] at this
   exact cell_lt this
  ·have := h i hi
   rw [Addr.add_mid] at this
   exact this
end Go.Proofs.YtlldeifbfpmbaaaGreat
set_option maxRecDepth 100000
namespace Go.Proofs.YtlldeifbfpmbaaaGreat
open Go.Joins Go.ChangeShapes Go.WideShapes Go.ChangeAt Go.RowKit Go.Deep Go.Proofs
theorem open_row50 {H : Type} {enc : TypeId × Value → H} {W : World} {v : Value} {y : DataW H × List MemPlace} {fuel : Nat} (hf : DataW.trod enc Tryz.prog W 0 (fun _ => true) true fuel 23 [v] = some y) :
  ∃ (ao : Option Addr) (n c : Nat) (g : Int → Int), v = .slice ao n c ∧ n ≤ c ∧ IAt W.heap.size W ao n (fun i => .int .i64 (g i)) := by
 rcases open_ints Tryz.underlying23 Tryz.underlying3 (by kernel_rfl) hf with ⟨hcs, hx⟩ | ⟨a, len, cap, zs, hcs, _, hl, hm, hz, hx, hc, _⟩
 ·have hv : v = .slice none 0 0 := by
   simpa using hcs
  exact ⟨none, 0, 0, fun _ => 0, hv, Nat.le_refl _, IAt.nil _ _ _ _⟩
 ·have hv : v = .slice (some a) len cap := by
   simpa using hcs
  simp only [if_true] at hz
  exact ⟨some a, len, cap, fun i => zs.getD i.toNat 0, hv, hl, iat_of a len (fun i => .int .i64 (zs.getD i 0)) (fun i hi => hc i (by omega))⟩
theorem open_tab50 {H : Type} {enc : TypeId × Value → H} {W : World} {v : Value} {y : DataW H × List MemPlace} {fuel : Nat} (hf : DataW.trod enc Tryz.prog W 0 (fun _ => true) true fuel 22 [v] = some y) :
  ∃ (ao : Option Addr) (G Gc : Nat) (L : Int → Nat) (D : Int → Int → Int), v = .slice ao G Gc ∧ G ≤ Gc ∧ RTab W.heap.size W ao G L D := by
 rcases open_int_rows Tryz.underlying22 Tryz.underlying23 Tryz.underlying3 (by kernel_rfl) (by kernel_rfl) hf with ⟨hcs, hx⟩ | ⟨a, len, cap, A, L, C, Z, hcs, _, hl, hm, hx, hrows⟩
 ·have hv : v = .slice none 0 0 := by
   simpa using hcs
  exact ⟨none, 0, 0, fun _ => 0, fun _ _ => 0, hv, Nat.le_refl _, fun _ => none, fun _ => 0, IAt.nil _ _ _ _, fun r h0 h1 => by omega, fun r h0 h1 => by omega⟩
 ·have hv : v = .slice (some a) len cap := by
   simpa using hcs
  refine ⟨some a, len, cap, fun r => L r.toNat, fun r c => (Z r.toNat).getD c.toNat 0, hv, hl, fun r => A r.toNat, fun r => C r.toNat, iat_of a len (fun r => .slice (A r) (L r) (C r)) (fun i hi => (hrows i (by omega)).1), fun r h0 h1 => (hrows r.toNat (by omega)).2.1, fun r h0 h1 => ?_⟩
  obtain ⟨_, h1', _, _, _, h3, h4⟩ := hrows r.toNat (by omega)
  dsimp only
  cases hA : A r.toNat with
  | none =>
   rw [show L r.toNat = 0 by have := h3 hA; omega]
   exact IAt.nil _ _ _ _
  | some a' =>
   exact iat_of a' (L r.toNat) (fun c => .int .i64 ((Z r.toNat).getD c 0)) (fun i hi => (h4 a' hA).2 i (by omega))
theorem list3 {l : List Value} (h : l.length = 3) : ∃ a b c, l = [a, b, c] := by
 match l, h with
 | [a, b, c], _ => exact ⟨a, b, c, rfl⟩
theorem open_fair {H : Type} {enc : TypeId × Value → H} {W : World} {v : Value} {d : DataW H} {ps : List MemPlace} {r : Reach} {b0 : Nat} (hval : Value.okWide Tryz.prog W r b0 25 v) (h : DataW.Trod enc Tryz.prog W 0 (fun _ => true) true 25 v d ps) :
  ∃ (ga ba qa : Option Addr) (n gc m bc nq qc : Nat) (GL BL : Int → Nat) (GE BE : Int → Int → Int) (q : Int → Int), v = .agg (fairL ga ba qa n gc m bc nq qc).toArray ∧ RTab W.heap.size W ga n GL GE ∧ RTab W.heap.size W ba m BL BE ∧ IAt W.heap.size W qa nq (fun i => iv (q i)) ∧ nq ≤ qc := by
 obtain ⟨cs, rfl, hsz⟩ := okWide_struct Tryz.underlying25 hval
 have hc3 : Tryz.prog.cellsOf 25 = 3 := by kernel_rfl
 obtain ⟨v0, v1, v2, e3⟩ := list3 (l := cs.toList) (by simpa using hsz.trans hc3)
 have ecs : cs = [v0, v1, v2].toArray := by rw [← e3]
 subst ecs
 obtain ⟨fuel, hf⟩ := h
 replace hf : DataW.trod enc Tryz.prog W 0 (fun _ => true) true fuel 25 [v0, v1, v2] = some (d, ps) := by simpa [Value.cells] using hf
 obtain ⟨xs, k, _, _, _, hxl, hf⟩ := DataW.trod_struct Tryz.underlying25 hf
 have cs1 : Tryz.prog.cellsOf 23 = 1 := by kernel_rfl
 have cs2 : Tryz.prog.cellsOf 22 = 1 := by kernel_rfl
 match xs, hxl with
 | [x0, x1, x2], _ =>
  have g0 := hf 0 _ rfl
  have g1 := hf 1 _ rfl
  have g2 := hf 2 _ rfl
  simp [cs1, cs2] at g0 g1 g2
  obtain ⟨ga, n, gc, GL, GE, rfl, _, hG⟩ := open_tab50 g0
  obtain ⟨ba, m, bc, BL, BE, rfl, _, hB⟩ := open_tab50 g1
  obtain ⟨qa, nq, qc, q, rfl, hqc, hQ⟩ := open_row50 g2
  exact ⟨ga, ba, qa, n, gc, m, bc, nq, qc, GL, BL, GE, BE, q, rfl, hG, hB, hQ, hqc⟩
end Go.Proofs.YtlldeifbfpmbaaaGreat
