import Derived.Test.YteagflekbbchhaaRowOpen8
set_option maxRecDepth 100000
namespace Go.Proofs.Yteagflekbbchhaa
open Go.Joins Go.ChangeShapes Go.WideShapes Go.ChangeAt Go.RowKit Go.Deep Go.Proofs
theorem acts_le {H : Type} {enc : TypeId × Value → H} {W : World} {ao : Option Addr} {n c : Nat} {d : DataW H} {ps : List MemPlace} (h : DataW.Trod enc Try.prog W 0 (fun _ => true) true 46 (.slice ao n c) d ps) : n ≤ 9223372036854775807 := by
 obtain ⟨fuel, hf⟩ := h
 rcases open_slice Try.underlying46 hf with ⟨hcs, _⟩ | ⟨a, len, cap, m, q, D, Pl, hcs, _, hl, hm, _⟩
 ·have hv : Value.slice ao n c = .slice none 0 0 := by simpa [Value.cells] using hcs
  cases hv
  omega
 ·have hv : Value.slice ao n c = .slice (some a) len cap := by simpa [Value.cells] using hcs
  cases hv
  unfold maxLen at hm
  omega
end Go.Proofs.Yteagflekbbchhaa
