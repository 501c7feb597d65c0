import Derived.Test.YtfbbagnpdfafjaaBitB
import Derived.Test.YtfbbagnpdfafjaaShrA
import Derived.Test.YtfbbagnpdfafjaaQui
set_option maxRecDepth 100000
namespace Go.Proofs.Ytfbbagnpdfafjaa
open Go.RowKit Go.Proofs
structure Cl (B : Nat) (w0 : World) (H : List (Option Blk)) (w : World) : Prop where
 own : Own B w0 w H
theorem wPos {x : Int} (h0 : 0 ≤ x) (h1 : x < 18446744073709551616) : IntKind.u64.wrap x = ((x.toNat : Nat) : Int) := by rw [IntKind.wrap_u64]; omega
theorem iPos {n : Nat} {x : Int} (e : (n : Int) = x) (h1 : x < 9223372036854775808) (h0 : 0 ≤ x) : IntKind.i64.wrap (n : Int) = x := by rw [e]; exact IntWalk.i64_in _ (by omega)
theorem IRow.mk1 (b : Nat) (E : TypeId) (n : Nat) (G : Int → Value) (h : n ≤ 9223372036854775807) : IRow (.slice (some ⟨b, 0, none⟩) n n) E n G (some (vch b E n G)) :=
 .inr ⟨b, n, _, rfl, Nat.le_refl _, by unfold maxLen; omega, by simp [vch], fun _ _ => rfl⟩
end Go.Proofs.Ytfbbagnpdfafjaa
