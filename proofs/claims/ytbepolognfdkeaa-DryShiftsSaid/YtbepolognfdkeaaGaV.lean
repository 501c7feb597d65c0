import Derived.Test.YtbepolognfdkeaaGcD
import Derived.Test.YtbepolognfdkeaaGaT
set_option maxRecDepth 100000
namespace Go.Proofs.Ytbepolognfdkeaa
def grd (l : Lds) (k : Int) (Z : Int → Int) : Nat → Int → Prop
 | 0 => fun _ => False
 | p + 1 => fun i => grd l k Z p i ∨ (i = Z p ∧ CanM l k fun j => grd l k Z p j ∨ j = Z p)
def SrtW (l : Lds) (Z : Int → Int) : Prop := SrtS (fun i => -(l.wo i)) (fun i => i) l.n Z l.n
section
variable {l : Lds} {k : Int} {Z : Int → Int}
theorem SrtW.rng (h : SrtW l Z) {p : Int} (p0 : 0 ≤ p) (p1 : p < l.n) : 0 ≤ Z p ∧ Z p < l.n := by
 obtain ⟨a, ha, e⟩ := (h.same (Z p)).1 ⟨p, ⟨p0, p1⟩, rfl⟩
 have e' : a = Z p := e
 omega
theorem SrtW.ex (h : SrtW l Z) {i : Int} (i0 : 0 ≤ i) (i1 : i < l.n) : ∃ p : Int, (0 ≤ p ∧ p < l.n) ∧ Z p = i := (h.same i).2 ⟨i, ⟨i0, i1⟩, rfl⟩
theorem SrtW.ne (h : SrtW l Z) (a b : Int) (a0 : 0 ≤ a) (ab : a < b) (b1 : b < l.n) : Z a ≠ Z b := fun e => by
 have := h.srt a b a0 ab b1
 rw [e] at this
 exact lex_irr this
theorem grd_in : ∀ {p : Nat} {i : Int}, grd l k Z p i → ∃ q : Int, (0 ≤ q ∧ q < p) ∧ Z q = i
 | 0, i, h => h.elim
 | p + 1, i, h => by
  rcases h with h | h
  ·obtain ⟨q, hq, e⟩ := grd_in h
   exact ⟨q, by omega, e⟩
  ·exact ⟨p, by omega, h.1.symm⟩
end
end Go.Proofs.Ytbepolognfdkeaa
