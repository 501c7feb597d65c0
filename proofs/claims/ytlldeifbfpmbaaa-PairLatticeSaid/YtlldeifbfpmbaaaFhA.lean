import Derived.Test.YtlldeifbfpmbaaaFaC
set_option maxRecDepth 100000
namespace Go.Proofs.Ytlldeifbfpmbaaa
open Go.RowKit Go.Proofs
def val (M : Nat) (l : Int → Int) : Nat → Nat
 | 0 => 0
 | i + 1 => val M l i * (M + 1) + (l i + 1).toNat
theorem val_congr {M : Nat} {l s : Int → Int} : ∀ {n : Nat}, (∀ i : Int, 0 ≤ i → i < n → l i = s i) → val M l n = val M s n
 | 0, _ => rfl
 | n + 1, h => by
  show val M l n * (M + 1) + (l n + 1).toNat = val M s n * (M + 1) + (s n + 1).toNat
  rw [val_congr (n := n) fun i i0 i1 => h i i0 (by omega), h n (by omega) (by omega)]
def Dig (M n : Nat) (l : Int → Int) : Prop := ∀ i : Int, 0 ≤ i → i < n → -1 ≤ l i ∧ l i < M
theorem Dig.pred {M n : Nat} {l : Int → Int} (h : Dig M (n + 1) l) : Dig M n l := fun i i0 i1 => h i i0 (by omega)
theorem val_le {M : Nat} {l s : Int → Int} : ∀ {n : Nat}, Dig M n s → (∀ i : Int, 0 ≤ i → i < n → l i = M - 1) → val M s n ≤ val M l n
 | 0, _, _ => Nat.le_refl _
 | n + 1, hs, hl => by
  have ih := val_le (n := n) hs.pred fun i i0 i1 => hl i i0 (by omega)
  have h1 := hs n (by omega) (by omega)
  have h2 := hl n (by omega) (by omega)
  show val M s n * (M + 1) + (s n + 1).toNat ≤ val M l n * (M + 1) + (l n + 1).toNat
  have := Nat.mul_le_mul_right (M + 1) ih
  omega
theorem val_pow {M K : Nat} (hK : M + 1 ≤ K) {l : Int → Int} : ∀ {n : Nat}, Dig M n l → val M l n < K ^ n
 | 0, _ => by show 0 < 1; decide
 | n + 1, h => by
  have ih := val_pow hK (n := n) h.pred
  have h1 := h n (by omega) (by omega)
  show val M l n * (M + 1) + (l n + 1).toNat < K ^ n * K
  have h2 := Nat.mul_le_mul_left (val M l n) hK
  have h3 := Nat.mul_le_mul_right K (show val M l n + 1 ≤ K ^ n from ih)
  rw [Nat.succ_mul] at h3
  omega
theorem val_inj {M : Nat} {l s : Int → Int} : ∀ {n : Nat}, Dig M n l → Dig M n s → val M l n = val M s n → ∀ i : Int, 0 ≤ i → i < n → l i = s i
 | 0, _, _, _ => fun i i0 i1 => by omega
 | n + 1, hl, hs, e => fun i i0 i1 => by
  have h1 := hl n (by omega) (by omega)
  have h2 := hs n (by omega) (by omega)
  have e' : val M l n * (M + 1) + (l n + 1).toNat = val M s n * (M + 1) + (s n + 1).toNat := e
  have hv : val M l n = val M s n := by
   rcases Nat.lt_trichotomy (val M l n) (val M s n) with h | h | h
   ·have := Nat.mul_le_mul_right (M + 1) (show val M l n + 1 ≤ val M s n from h)
    rw [Nat.succ_mul] at this
    omega
   ·exact h
   ·have := Nat.mul_le_mul_right (M + 1) (show val M s n + 1 ≤ val M l n from h)
    rw [Nat.succ_mul] at this
    omega
  by_cases c : i = n
  ·rw [hv] at e'
   rw [c]
   omega
  ·exact val_inj hl.pred hs.pred hv i i0 (by omega)
def nextL (l : Int → Int) (i : Int) : Int → Int := fun j => if i < j then -1 else if j = i then l i + 1 else l j
theorem val_next {M : Nat} {l : Int → Int} {i : Int} (i0 : 0 ≤ i) : ∀ {n : Nat}, i < n → Dig M n l → (∀ j : Int, i < j → j < n → l j = M - 1) → val M (nextL l i) n = val M l n + 1
 | 0, h, _, _ => by omega
 | n + 1, h, hd, hm => by
  show val M (nextL l i) n * (M + 1) + (nextL l i n + 1).toNat = val M l n * (M + 1) + (l n + 1).toNat + 1
  have h1 := hd n (by omega) (by omega)
  by_cases c : i = n
  ·have e : val M (nextL l i) n = val M l n := val_congr fun j j0 j1 => by unfold nextL; rw [if_neg (by omega), if_neg (by omega)]
   have e2 : nextL l i n = l n + 1 := by unfold nextL; rw [if_neg (by omega), if_pos c.symm, c]
   rw [e, e2]
   omega
  ·have ih := val_next (M := M) i0 (n := n) (by omega) hd.pred fun j j0 j1 => hm j j0 (by omega)
   have e2 : nextL l i n = -1 := by unfold nextL; rw [if_pos (by omega)]
   have e3 := hm n (by omega) (by omega)
   rw [ih, e2, e3, Nat.succ_mul]
   omega
theorem dig_next {M n : Nat} {l : Int → Int} {i : Int} (h : Dig M n l) (i0 : 0 ≤ i) (i1 : i < n) (hi : l i ≠ M - 1) : Dig M n (nextL l i) := fun j j0 j1 => by
 have h1 := h j j0 j1
 have h2 := h i i0 i1
 unfold nextL
 split
 ·omega
 ·split <;> omega
namespace Fair
theorem Stab.dig {f : Fair} {s : Int → Int} (h : f.Stab s) : Dig f.m f.n s := fun i i0 i1 => by
 have := h.rng i i0 i1
 omega
structure AllTo (f : Fair) (N : Nat) (A : Nat → Int → Int) (k : Nat) : Prop where
 st : ∀ j : Nat, j < N → f.Stab (A j)
 inc : ∀ i j : Nat, i < j → j < N → val f.m (A i) f.n < val f.m (A j) f.n
 lt : ∀ j : Nat, j < N → val f.m (A j) f.n < k
 all : ∀ s, f.Stab s → val f.m s f.n < k → ∃ j : Nat, j < N ∧ ∀ g : Int, 0 ≤ g → g < f.n → A j g = s g
 len : N ≤ k
theorem AllTo.init (f : Fair) (A : Nat → Int → Int) : f.AllTo 0 A 0 := ⟨fun j h => by omega, fun i j h h' => by omega, fun j h => by omega, fun s _ h => by omega, Nat.le_refl _⟩
theorem AllTo.skip {f : Fair} {N : Nat} {A : Nat → Int → Int} {l : Int → Int} (h : f.AllTo N A (val f.m l f.n)) (hl : Dig f.m f.n l) (hn : ¬ f.Stab l) (hcg : ∀ s, f.Stab s → (∀ g : Int, 0 ≤ g → g < f.n → l g = s g) → f.Stab l) : f.AllTo N A (val f.m l f.n + 1) :=
 ⟨h.st, h.inc, fun j hj => by have := h.lt j hj; omega, fun s hs hv => by
  by_cases c : val f.m s f.n = val f.m l f.n
  ·exact absurd (hcg s hs (val_inj hl hs.dig c.symm)) hn
  ·exact h.all s hs (by omega), by have := h.len; omega⟩
theorem AllTo.take {f : Fair} {N : Nat} {A A' : Nat → Int → Int} {l : Int → Int} (h : f.AllTo N A (val f.m l f.n)) (hl : f.Stab l) (ho : ∀ j : Nat, j < N → A' j = A j) (hN : A' N = l) : f.AllTo (N + 1) A' (val f.m l f.n + 1) := by
 have hA : ∀ j : Nat, j < N + 1 → (j < N ∧ A' j = A j) ∨ (j = N ∧ A' j = l) := fun j hj => by
  by_cases c : j = N
  ·exact .inr ⟨c, by rw [c]; exact hN⟩
  ·exact .inl ⟨by omega, ho j (by omega)⟩
 refine ⟨fun j hj => ?_, fun i j hi hj => ?_, fun j hj => ?_, fun s hs hv => ?_, by have := h.len; omega⟩
 ·rcases hA j hj with ⟨c, e⟩ | ⟨c, e⟩
  ·rw [e]; exact h.st j c
  ·rw [e]; exact hl
 ·rcases hA i (by omega) with ⟨c, e⟩ | ⟨c, e⟩
  ·rcases hA j hj with ⟨c', e'⟩ | ⟨c', e'⟩
   ·rw [e, e']; exact h.inc i j hi c'
   ·rw [e, e']; exact h.lt i c
  ·omega
 ·rcases hA j hj with ⟨c, e⟩ | ⟨c, e⟩
  ·rw [e]; have := h.lt j c; omega
  ·rw [e]; omega
 ·by_cases c : val f.m s f.n = val f.m l f.n
  ·exact ⟨N, by omega, fun g g0 g1 => by rw [hN]; exact val_inj hl.dig hs.dig c.symm g g0 g1⟩
  ·obtain ⟨j, hj, e⟩ := h.all s hs (by omega)
   exact ⟨j, by omega, fun g g0 g1 => by rw [ho j hj]; exact e g g0 g1⟩
structure AllS (f : Fair) (N : Nat) (A : Nat → Int → Int) : Prop where
 st : ∀ j : Nat, j < N → f.Stab (A j)
 inc : ∀ i j : Nat, i < j → j < N → val f.m (A i) f.n < val f.m (A j) f.n
 all : ∀ s, f.Stab s → ∃ j : Nat, j < N ∧ ∀ g : Int, 0 ≤ g → g < f.n → A j g = s g
theorem AllTo.end {f : Fair} {N : Nat} {A : Nat → Int → Int} {l : Int → Int} (h : f.AllTo N A (val f.m l f.n + 1)) (hl : ∀ i : Int, 0 ≤ i → i < f.n → l i = f.m - 1) : f.AllS N A :=
 ⟨h.st, h.inc, fun s hs => h.all s hs (by have := val_le hs.dig hl; omega)⟩
theorem AllS.pos {f : Fair} {N : Nat} {A : Nat → Int → Int} (h : f.AllS N A) (hf : f.Ok) : 0 < N := by
 obtain ⟨l, hl⟩ := Best.exists hf
 obtain ⟨j, hj, _⟩ := h.all l hl.stab
 omega
end Fair
end Go.Proofs.Ytlldeifbfpmbaaa
