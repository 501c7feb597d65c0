import Derived.Test.YtfbbagnpdfafjaaRowOpenH
set_option maxRecDepth 100000
namespace Go.Proofs.Ytfbbagnpdfafjaa
open Go.Joins Go.ChangeShapes Go.WideShapes Go.ChangeAt Go.RowKit Go.Deep Go.Proofs
theorem open_hact1 {H : Type} {enc : TypeId × Value → H} {W : World} {v : Value} {d : DataW H} {ps : List MemPlace} {r : Reach} {b0 : Nat} (hval : Value.okWide Try.prog W r b0 28 v) (h : DataW.Trod enc Try.prog W 0 (fun _ => true) true 28 v d ps) : ∃ x : HAct, v = .agg x.l.toArray := by
 obtain ⟨cs, rfl, hsz⟩ := okWide_struct Try.underlying28 hval
 have hc7 : Try.prog.cellsOf 28 = 7 := by kernel_rfl
 obtain ⟨fuel, hf⟩ := h
 replace hf : DataW.trod enc Try.prog W 0 (fun _ => true) true fuel 28 cs.toList = some (d, ps) := by simpa [Value.cells] using hf
 obtain ⟨x, e⟩ := open_hact (l := cs.toList) (by simpa using hsz.trans hc7) hf
 exact ⟨x, by rw [← e]⟩
end Go.Proofs.Ytfbbagnpdfafjaa
