import Derived.Test.YtlldeifbfpmbaaaGreatFbC
set_option maxRecDepth 100000
namespace Go.Proofs.YtlldeifbfpmbaaaGreat
open Go.RowKit Go.Proofs
theorem sm_atmost {p : Int → Prop} [∀ i, Decidable (p i)] {n : Int} (n0 : 0 ≤ n) (h : ∀ i j : Int, 0 ≤ i → i < n → 0 ≤ j → j < n → p i → p j → i = j) : sm (fun i => if p i then 1 else 0) n ≤ 1 := by
 by_cases c : ∃ i : Int, 0 ≤ i ∧ i < n ∧ p i
 ·obtain ⟨i, i0, i1, hi⟩ := c
  have e : sm (fun i => if p i then 1 else 0) n = sm (fun j => if i = j then 1 else 0) n := sm_congr fun j j0 j1 => by
   by_cases e : i = j
   ·rw [if_pos e, ← e, if_pos hi]
   ·rw [if_neg e, if_neg fun hj => e (h i j i0 i1 j0 j1 hi hj)]
  rw [e, sm_one i0 i1]
  omega
 ·rw [sm_congr (g := fun _ => 0) fun i i0 i1 => if_neg fun hi => c ⟨i, i0, i1, hi⟩, sm_const 0 n0]
  omega
theorem perm_surj {n : Int} {o : Int → Int} (n0 : 0 ≤ n) (hr : ∀ i : Int, 0 ≤ i → i < n → 0 ≤ o i ∧ o i < n) (hi : ∀ i j : Int, 0 ≤ i → i < n → 0 ≤ j → j < n → o i = o j → i = j) {k : Int} (k0 : 0 ≤ k) (k1 : k < n) : ∃ p : Int, 0 ≤ p ∧ p < n ∧ o p = k := by
 have h1 : sm (fun k => sm (fun p => if o p = k then (1 : Int) else 0) n) n = n := by
  rw [sm_swap, sm_congr (g := fun _ => 1) fun p p0 p1 => sm_one (hr p p0 p1).1 (hr p p0 p1).2 1, sm_const 1 n0]
  omega
 have h2 := sm_eq (f := fun k => sm (fun p => if o p = k then (1 : Int) else 0) n) (g := fun _ => 1) (k := n) (fun k k0 k1 => sm_atmost n0 fun i j i0 i1 j0 j1 h1 h2 => hi i j i0 i1 j0 j1 (h1.trans h2.symm)) (by rw [h1, sm_const 1 n0]; omega) k0 k1
 refine Classical.byContradiction fun hno => ?_
 have h3 : sm (fun p => if o p = k then (1 : Int) else 0) n = 0 := by
  rw [sm_congr (g := fun _ => 0) fun p p0 p1 => if_neg fun e => hno ⟨p, p0, p1, e⟩, sm_const 0 n0]; omega
 have h4 : sm (fun p => if o p = k then (1 : Int) else 0) n = 1 := h2
 omega
structure Wish where
 n : Nat
 l : Int → Nat
 e : Int → Int → Int
namespace Wish
structure Ok (W : Wish) : Prop where
 len : ∀ i : Int, 0 ≤ i → i < W.n → 1 ≤ W.l i
 rng : ∀ i k : Int, 0 ≤ i → i < W.n → 0 ≤ k → k < W.l i → 0 ≤ W.e i k ∧ W.e i k < W.n
 dis : ∀ i : Int, 0 ≤ i → i < W.n → ∀ a b : Int, 0 ≤ a → a < W.l i → 0 ≤ b → b < W.l i → W.e i a = W.e i b → a = b
 own : ∀ i : Int, 0 ≤ i → i < W.n → W.e i ((W.l i : Int) - 1) = i
def rk (W : Wish) (i k : Int) : Int := Proofs.YtlldeifbfpmbaaaGreat.rk (W.e i) (W.l i) k
structure Cert (W : Wish) (o t : Int → Int) : Prop where
 rng : ∀ i : Int, 0 ≤ i → i < W.n → 0 ≤ o i ∧ o i < W.n
 inj : ∀ i j : Int, 0 ≤ i → i < W.n → 0 ≤ j → j < W.n → o i = o j → i = j
 on : ∀ i : Int, 0 ≤ i → i < W.n → W.rk i (o i) < W.l i
 lev : ∀ i : Int, 0 ≤ i → i < W.n → t (o i) = t i
 best : ∀ i k : Int, 0 ≤ i → i < W.n → 0 ≤ k → k < W.rk i (o i) → t (W.e i k) < t i
end Wish
end Go.Proofs.YtlldeifbfpmbaaaGreat
