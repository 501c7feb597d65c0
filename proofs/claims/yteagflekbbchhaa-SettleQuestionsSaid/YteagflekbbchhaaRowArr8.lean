import Derived.Test.YteagflekbbchhaaRowOpen8
import Derived.Test.YteagflekbbchhaaArr
set_option maxRecDepth 100000
namespace Go.Proofs.Yteagflekbbchhaa
open Go.Joins Go.ChangeShapes Go.WideShapes Go.ChangeAt Go.RowKit Go.Deep Go.Proofs
theorem trod_array2 {H : Type} {enc : TypeId × Value → H} {P : Program} {w : World} {base : Nat} {spare : Nat → Bool} {held : Bool} {t e : TypeId} {fuel : Nat} {c0 c1 : Value} {x : DataW H × List MemPlace} (ht : P.underlying t = some (.array 2 e)) (hce : P.cellsOf e = 1)
  (h : DataW.trod enc P w base spare held fuel t [c0, c1] = some x) :
  ∃ y0 y1 n, x = (.agg [y0.1, y1.1], y0.2 ++ y1.2) ∧ DataW.trod enc P w base spare held n e [c0] = some y0 ∧ DataW.trod enc P w base spare held n e [c1] = some y1 := by
 cases fuel with
 | zero => simp [DataW.trod] at h
 | succ n =>
  unfold DataW.trod at h
  rw [ht] at h
  have r2 : List.range 2 = [0, 1] := rfl
  simp [r2, hce] at h
  obtain ⟨_, h⟩ := h
  cases h0 : DataW.trod enc P w base spare held n e [c0] with
  | none => simp [h0] at h
  | some y0 =>
   cases h1 : DataW.trod enc P w base spare held n e [c1] with
   | none => simp [h0, h1] at h
   | some y1 =>
    simp [h0, h1] at h
    exact ⟨y0, y1, n, h.symm, h0, h1⟩
theorem open_arr2 {H : Type} {enc : TypeId × Value → H} {W : World} {v : Value} {d : DataW H} {ps : List MemPlace} {r : Reach} {b0 : Nat} (hval : Value.okWide Try.prog W r b0 61 v) (h : DataW.Trod enc Try.prog W 0 (fun _ => true) true 61 v d ps) :
  ∃ f : Int → Int, v = arrv 2 (fun i => .int .i64 (f i)) := by
 have h0 : ∃ cs, v = .agg cs ∧ cs.size = Try.prog.cellsOf 61 := by
  simp only [Value.okWide, Try.underlying61] at hval
  obtain ⟨cs, h1, h2, _⟩ := hval
  exact ⟨cs, h1, h2⟩
 obtain ⟨cs, rfl, hsz⟩ := h0
 obtain ⟨c0, c1, rfl⟩ := array2 (hsz.trans (by kernel_rfl))
 obtain ⟨fuel, hf⟩ := h
 obtain ⟨y0, y1, n, _, h0, h1⟩ := trod_array2 Try.underlying61 (by kernel_rfl) hf
 obtain ⟨a, e0, _, _⟩ := DataW.trod_int Try.underlying3 h0
 obtain ⟨b, e1, _, _⟩ := DataW.trod_int Try.underlying3 h1
 simp at e0 e1
 subst e0 e1
 exact ⟨fun i => if i = 0 then a else b, rfl⟩
end Go.Proofs.Yteagflekbbchhaa
