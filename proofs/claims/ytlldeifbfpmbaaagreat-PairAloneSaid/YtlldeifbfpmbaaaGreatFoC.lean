import Derived.Test.YtlldeifbfpmbaaaGreatFoB
import Derived.Test.YtlldeifbfpmbaaaGreatFeB
import Derived.Test.YtlldeifbfpmbaaaGreatFbG
import Derived.Test.YtlldeifbfpmbaaaGreatFbJ
set_option maxRecDepth 100000
namespace Go.Proofs.YtlldeifbfpmbaaaGreat
open Go.RowKit Go.Proofs Go.MapKept
def Opt (f : Fair) (l1 l2 : Int → Int) (g b : Int) : Prop := l1 g < 0 ∧ b = -1 ∨ 0 ≤ l1 g ∧ (0 ≤ b ∧ b < f.m) ∧ f.know g b ∧ f.rg g (l1 g) ≤ f.rg g b ∧ f.rg g b ≤ if l2 g < 0 then (f.m : Int) else f.rg g (l2 g)
structure OptR (f : Fair) (l1 l2 : Int → Int) (g : Int) (n : Nat) (X : Int → Int) : Prop where
 inc : ∀ a b : Int, 0 ≤ a → a < b → b < n → X a < X b
 mem : ∀ v : Int, (∃ j : Int, (0 ≤ j ∧ j < n) ∧ X j = v) ↔ Opt f l1 l2 g v
structure OptJ (f : Fair) (l1 l2 : Int → Int) (g j : Int) (n : Nat) (X : Int → Int) : Prop where
 inj : ∀ a b : Int, 0 ≤ a → a < n → 0 ≤ b → b < n → X a = X b → a = b
 mem : ∀ v : Int, (∃ i : Int, (0 ≤ i ∧ i < n) ∧ X i = v) ↔ (∃ i : Int, (0 ≤ i ∧ i < j) ∧ f.ge g i = v) ∧ Opt f l1 l2 g v
theorem OptJ.take {f : Fair} (hf : f.Ok) {l1 l2 : Int → Int} {g : Int} {j : Int} {n : Nat} {X : Int → Int} (h : OptJ f l1 l2 g j n X) (g0 : 0 ≤ g) (g1 : g < f.n) (j0 : 0 ≤ j) (j1 : j < f.gl g) (ho : Opt f l1 l2 g (f.ge g j)) : OptJ f l1 l2 g (j + 1) (n + 1) (upd X n (f.ge g j)) := by
 have hnew : ∀ i : Int, 0 ≤ i → i < n → X i ≠ f.ge g j := fun i i0 i1 e => by
  obtain ⟨⟨i', ⟨i'0, i'1⟩, e'⟩, _⟩ := (h.mem (f.ge g j)).1 ⟨i, ⟨i0, i1⟩, e⟩
  have := hf.gd g g0 g1 i' j i'0 (by omega) j0 j1 e'
  omega
 refine ⟨fun a b a0 a1 b0 b1 e => ?_, fun v => ?_⟩
 ·by_cases ea : a = n <;> by_cases eb : b = n
  ·omega
  ·rw [ea, upd_same, upd_ne _ _ eb] at e; exact absurd e.symm (hnew b b0 (by omega))
  ·rw [eb, upd_same, upd_ne _ _ ea] at e; exact absurd e (hnew a a0 (by omega))
  ·rw [upd_ne _ _ ea, upd_ne _ _ eb] at e; exact h.inj a b a0 (by omega) b0 (by omega) e
 ·constructor
  ·rintro ⟨i, ⟨i0, i1⟩, e⟩
   by_cases ei : i = n
   ·rw [ei, upd_same] at e
    rw [← e]
    exact ⟨⟨j, ⟨j0, by omega⟩, rfl⟩, ho⟩
   ·rw [upd_ne _ _ ei] at e
    obtain ⟨⟨i', ⟨i'0, i'1⟩, e'⟩, h2⟩ := (h.mem v).1 ⟨i, ⟨i0, by omega⟩, e⟩
    exact ⟨⟨i', ⟨i'0, by omega⟩, e'⟩, h2⟩
  ·rintro ⟨⟨i, ⟨i0, i1⟩, e⟩, h2⟩
   by_cases ei : i = j
   ·exact ⟨n, ⟨by omega, by omega⟩, by rw [upd_same, ← e, ei]⟩
   ·obtain ⟨i', ⟨i'0, i'1⟩, e'⟩ := (h.mem v).2 ⟨⟨i, ⟨i0, by omega⟩, e⟩, h2⟩
    exact ⟨i', ⟨i'0, by omega⟩, by rw [upd_ne _ _ (by omega)]; exact e'⟩
theorem OptJ.skip {f : Fair} {l1 l2 : Int → Int} {g : Int} {j : Int} {n : Nat} {X : Int → Int} (h : OptJ f l1 l2 g j n X) (j0 : 0 ≤ j) (ho : ¬ Opt f l1 l2 g (f.ge g j)) : OptJ f l1 l2 g (j + 1) n X := by
 refine ⟨h.inj, fun v => ?_⟩
 rw [h.mem v]
 constructor
 ·rintro ⟨⟨i, ⟨i0, i1⟩, e⟩, h2⟩; exact ⟨⟨i, ⟨i0, by omega⟩, e⟩, h2⟩
 ·rintro ⟨⟨i, ⟨i0, i1⟩, e⟩, h2⟩
  by_cases ei : i = j
  ·rw [ei] at e; rw [← e] at h2; exact absurd h2 ho
  ·exact ⟨⟨i, ⟨i0, by omega⟩, e⟩, h2⟩
end Go.Proofs.YtlldeifbfpmbaaaGreat
