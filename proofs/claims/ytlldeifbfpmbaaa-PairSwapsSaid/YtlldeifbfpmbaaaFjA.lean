import Derived.Test.YtlldeifbfpmbaaaFiD
import Derived.Test.YtlldeifbfpmbaaaFeF
import Derived.Laws.StructEq
set_option maxRecDepth 100000
namespace Go.Proofs.Ytlldeifbfpmbaaa
open Go.RowKit Go.Proofs Go.MapKept
noncomputable def dB (p : Prop) : Bool := @decide p (Classical.propDecidable p)
theorem dB_iff {p : Prop} : dB p = true ↔ p := @decide_eq_true_iff p (Classical.propDecidable p)
theorem dB_of {b : Bool} {p : Prop} (h : b = true ↔ p) : b = dB p := by
 cases b
 ·cases e : dB p
  ·rfl
  ·exact h.2 (dB_iff.1 e)
 ·exact (dB_iff.2 (h.1 rfl)).symm
theorem callsDB {f : FuncId} {args : Array Value} {w : World} {p : Prop} {B : World → Prop} (h : Calls Try.prog f args w fun e w' => (∃ b, e = .returned (.bool b) ∧ (b = true ↔ p)) ∧ B w') : Calls Try.prog f args w fun e w' => e = .returned (.bool (dB p)) ∧ B w' :=
 h.mono fun _ _ ⟨⟨b, h1, h2⟩, h3⟩ => ⟨by rw [h1, dB_of h2], h3⟩
section
variable (ga ba qa la : Option Addr) (gc bc qc nq ln lc : Nat) (f : Fair) (l : Int → Int) (w : World) (hlg : Lg5 f nq) (hF : FAg w.heap.size w ga ba qa f nq) (hln : ln ≤ 1000000) (hl : IAt w.heap.size w la ln (fun i => iv (l i)))
include hlg hF hln hl
end
end Go.Proofs.Ytlldeifbfpmbaaa
