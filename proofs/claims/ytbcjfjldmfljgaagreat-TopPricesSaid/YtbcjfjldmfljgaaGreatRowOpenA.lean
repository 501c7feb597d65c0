import Derived.Test.YtbcjfjldmfljgaaGreatEff
import Derived.Test.YtbcjfjldmfljgaaGreatTab
import Derived.Test.YtbcjfjldmfljgaaGreatChecked
import Derived.Test.YtbcjfjldmfljgaaGreatRows
import Derived.ProofKit
import Derived.SizedLaws
import Derived.Deep.Modes
import Derived.Deep.Frames
import Derived.Deep.Matrix
import Derived.Carry
import Derived.Lib.SmallJoins
set_option maxRecDepth 100000
namespace Go.Proofs.YtbcjfjldmfljgaaGreat
open Go.Joins Go.ChangeShapes Go.WideShapes Go.ChangeAt Go.RowKit Go.Deep Go.Proofs
theorem Tryz.own : ownKnob Tryz.prog.godebug = none := by kernel_rfl
theorem Tryz.laidOut : laidOutB Tryz.prog = true := by kernel_rfl
theorem cell_lt {w : World} {b off : Nat} {v : Value} (h : w.cell? ⟨b, off, none⟩ = some v) : b < w.heap.size := by
 by_cases hb : b < w.heap.size
 ·exact hb
 ·have : w.heap[b]? = none := by simp; omega
  simp [World.cell?, this] at h
theorem iat_of {W : World} (a : Addr) (n : Nat) (f : Nat → Value) (h : ∀ i, i < n → W.cell? (a.add i) = some (f i)) : IAt W.heap.size W (some a) n (fun i => f i.toNat) := by
 by_cases hn : n = 0
 ·subst hn; exact IAt.nil _ _ _ _
 ·obtain ⟨b, o, s⟩ := a
  have hs : s = none := by simpa [Addr.add] using World.cell?_spot (h 0 (by omega))
  subst hs
  refine ⟨b, o, fun _ => rfl, fun _ => ?_, fun i hi => ?_⟩
  ·have := h 0 (by omega)
   rw [Addr.add_mid] at this
   exact cell_lt this
  ·have := h i hi
   rw [Addr.add_mid] at this
   exact this
theorem open_row0 {H : Type} {enc : TypeId × Value → H} {W : World} {v : Value} {y : DataW H × List MemPlace} {fuel : Nat} (hf : DataW.trod enc Tryz.prog W 0 (fun _ => true) true fuel 22 [v] = some y) :
  ∃ (ao : Option Addr) (n c : Nat) (g : Int → Int), v = .slice ao n c ∧ n ≤ c ∧ IAt W.heap.size W ao n (fun i => .int .i64 (g i)) := by
 rcases open_ints Tryz.underlying22 Tryz.underlying2 (by kernel_rfl) hf with ⟨hcs, hx⟩ | ⟨a, len, cap, zs, hcs, _, hl, hm, hz, hx, hc, _⟩
 ·have hv : v = .slice none 0 0 := by
   simpa using hcs
  exact ⟨none, 0, 0, fun _ => 0, hv, Nat.le_refl _, IAt.nil _ _ _ _⟩
 ·have hv : v = .slice (some a) len cap := by
   simpa using hcs
  simp only [if_true] at hz
  exact ⟨some a, len, cap, fun i => zs.getD i.toNat 0, hv, hl, iat_of a len (fun i => .int .i64 (zs.getD i 0)) (fun i hi => hc i (by omega))⟩
theorem open_row {H : Type} {enc : TypeId × Value → H} {W : World} {v : Value} {d : DataW H} {ps : List MemPlace} (h : DataW.Trod enc Tryz.prog W 0 (fun _ => true) true 22 v d ps) (hs : ∃ a l c, v = .slice a l c) :
  ∃ (ao : Option Addr) (n c : Nat) (g : Int → Int), v = .slice ao n c ∧ n ≤ c ∧ IAt W.heap.size W ao n (fun i => .int .i64 (g i)) := by
 obtain ⟨fuel, hf⟩ := h
 obtain ⟨sa, sl, sc, rfl⟩ := hs
 rcases open_ints Tryz.underlying22 Tryz.underlying2 (by kernel_rfl) hf with ⟨hcs, hx⟩ | ⟨a, len, cap, zs, hcs, _, hl, hm, hz, hx, hc, _⟩
 ·have hv : Value.slice sa sl sc = .slice none 0 0 := by
   simpa [Value.cells] using hcs
  exact ⟨none, 0, 0, fun _ => 0, hv, Nat.le_refl _, IAt.nil _ _ _ _⟩
 ·have hv : Value.slice sa sl sc = .slice (some a) len cap := by
   simpa [Value.cells] using hcs
  simp only [if_true] at hz
  exact ⟨some a, len, cap, fun i => zs.getD i.toNat 0, hv, hl, iat_of a len (fun i => .int .i64 (zs.getD i 0)) (fun i hi => hc i (by omega))⟩
end Go.Proofs.YtbcjfjldmfljgaaGreat
