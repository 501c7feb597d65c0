import Derived.Test.YtlldeifbfpmbaaaGreatFaC
set_option maxRecDepth 100000
namespace Go.Proofs.YtlldeifbfpmbaaaGreat
open Go.RowKit Go.Proofs
theorem sm_atmost {p : Int → Prop} [∀ i, Decidable (p i)] {n : Int} (n0 : 0 ≤ n) (h : ∀ i j : Int, 0 ≤ i → i < n → 0 ≤ j → j < n → p i → p j → i = j) : sm (fun i => if p i then 1 else 0) n ≤ 1 := by
 by_cases c : ∃ i : Int, 0 ≤ i ∧ i < n ∧ p i
 ·obtain ⟨i, i0, i1, hi⟩ := c
  have e : sm (fun i => if p i then 1 else 0) n = sm (fun j => if i = j then 1 else 0) n := sm_congr fun j j0 j1 => by
   by_cases e : i = j
   ·rw [if_pos e, ← e, if_pos hi]
   ·rw [if_neg e, if_neg fun hj => e (h i j i0 i1 j0 j1 hi hj)]
  rw [e, sm_one i0 i1]
  omega
 ·rw [sm_congr (g := fun _ => 0) fun i i0 i1 => if_neg fun hi => c ⟨i, i0, i1, hi⟩, sm_const 0 n0]
  omega
theorem perm_surj {n : Int} {o : Int → Int} (n0 : 0 ≤ n) (hr : ∀ i : Int, 0 ≤ i → i < n → 0 ≤ o i ∧ o i < n) (hi : ∀ i j : Int, 0 ≤ i → i < n → 0 ≤ j → j < n → o i = o j → i = j) {k : Int} (k0 : 0 ≤ k) (k1 : k < n) : ∃ p : Int, 0 ≤ p ∧ p < n ∧ o p = k := by
 have h1 : sm (fun k => sm (fun p => if o p = k then (1 : Int) else 0) n) n = n := by
  rw [sm_swap, sm_congr (g := fun _ => 1) fun p p0 p1 => sm_one (hr p p0 p1).1 (hr p p0 p1).2 1, sm_const 1 n0]
  omega
 have h2 := sm_eq (f := fun k => sm (fun p => if o p = k then (1 : Int) else 0) n) (g := fun _ => 1) (k := n) (fun k k0 k1 => sm_atmost n0 fun i j i0 i1 j0 j1 h1 h2 => hi i j i0 i1 j0 j1 (h1.trans h2.symm)) (by rw [h1, sm_const 1 n0]; omega) k0 k1
 refine Classical.byContradiction fun hno => ?_
 have h3 : sm (fun p => if o p = k then (1 : Int) else 0) n = 0 := by
  rw [sm_congr (g := fun _ => 0) fun p p0 p1 => if_neg fun e => hno ⟨p, p0, p1, e⟩, sm_const 0 n0]; omega
 have h4 : sm (fun p => if o p = k then (1 : Int) else 0) n = 1 := h2
 omega
theorem sm_perm {n : Int} {o : Int → Int} (n0 : 0 ≤ n) (hr : ∀ i : Int, 0 ≤ i → i < n → 0 ≤ o i ∧ o i < n) (hi : ∀ i j : Int, 0 ≤ i → i < n → 0 ≤ j → j < n → o i = o j → i = j) (F : Int → Int) : sm (fun i => F (o i)) n = sm F n := by
 have h1 : sm (fun i => F (o i)) n = sm (fun i => sm (fun k => if o i = k then F k else 0) n) n := sm_congr fun i i0 i1 => by
  have := hr i i0 i1
  rw [sm_congr (f := fun k => if o i = k then F k else 0) (g := fun k => if o i = k then F (o i) else 0) fun k _ _ => by by_cases e : o i = k; (rw [if_pos e, if_pos e, e]); (rw [if_neg e, if_neg e]), sm_one this.1 this.2]
 rw [h1, sm_swap]
 refine sm_congr fun k k0 k1 => ?_
 obtain ⟨p, p0, p1, hp⟩ := perm_surj n0 hr hi k0 k1
 rw [sm_congr (f := fun i => if o i = k then F k else 0) (g := fun i => if p = i then F k else 0) fun i i0 i1 => by
  by_cases e : p = i
  ·rw [if_pos e, ← e, if_pos hp]
  ·rw [if_neg e, if_neg fun h => e (hi p i p0 p1 i0 i1 (hp.trans h.symm))], sm_one p0 p1]
structure Wish where
 n : Nat
 l : Int → Nat
 e : Int → Int → Int
namespace Wish
structure Ok (W : Wish) : Prop where
 len : ∀ i : Int, 0 ≤ i → i < W.n → 1 ≤ W.l i
 rng : ∀ i k : Int, 0 ≤ i → i < W.n → 0 ≤ k → k < W.l i → 0 ≤ W.e i k ∧ W.e i k < W.n
 dis : ∀ i : Int, 0 ≤ i → i < W.n → ∀ a b : Int, 0 ≤ a → a < W.l i → 0 ≤ b → b < W.l i → W.e i a = W.e i b → a = b
 own : ∀ i : Int, 0 ≤ i → i < W.n → W.e i ((W.l i : Int) - 1) = i
def rk (W : Wish) (i k : Int) : Int := Proofs.YtlldeifbfpmbaaaGreat.rk (W.e i) (W.l i) k
structure Cert (W : Wish) (o t : Int → Int) : Prop where
 rng : ∀ i : Int, 0 ≤ i → i < W.n → 0 ≤ o i ∧ o i < W.n
 inj : ∀ i j : Int, 0 ≤ i → i < W.n → 0 ≤ j → j < W.n → o i = o j → i = j
 on : ∀ i : Int, 0 ≤ i → i < W.n → W.rk i (o i) < W.l i
 lev : ∀ i : Int, 0 ≤ i → i < W.n → t (o i) = t i
 best : ∀ i k : Int, 0 ≤ i → i < W.n → 0 ≤ k → k < W.rk i (o i) → t (W.e i k) < t i
theorem Cert.surj {W : Wish} {o t : Int → Int} (h : W.Cert o t) {k : Int} (k0 : 0 ≤ k) (k1 : k < W.n) : ∃ p : Int, (0 ≤ p ∧ p < W.n) ∧ o p = k ∧ t p = t k := by
 obtain ⟨p, p0, p1, e⟩ := perm_surj (n := W.n) (by omega) h.rng h.inj k0 k1
 exact ⟨p, ⟨p0, p1⟩, e, by rw [← e, h.lev p p0 p1]⟩
theorem Cert.notBetter {W : Wish} {o t o' : Int → Int} (h : W.Cert o t) (hi' : ∀ i j : Int, 0 ≤ i → i < W.n → 0 ≤ j → j < W.n → o' i = o' j → i = j) {j : Int} (j0 : 0 ≤ j) (j1 : j < W.n) (hb : 0 ≤ o' j ∧ o' j < W.n) (hbelow : ∀ i : Int, 0 ≤ i → i < W.n → t i < t j → o' i = o i) : ¬ W.rk j (o' j) < W.rk j (o j) := fun hlt => by
 have hr := rk_rng (W.e j) (o' j) (W.l j)
 have hon := h.on j j0 j1
 have h1 := h.best j (W.rk j (o' j)) j0 j1 hr.1 hlt
 rw [show W.e j (W.rk j (o' j)) = o' j from rk_at (by unfold rk at hlt hon; omega)] at h1
 obtain ⟨p, ⟨p0, p1⟩, e1, e2⟩ := h.surj hb.1 hb.2
 have h2 := hbelow p p0 p1 (by omega)
 have := hi' p j p0 p1 j0 j1 (h2.trans e1)
 rw [this] at e2
 omega
theorem Cert.same {W W' : Wish} {o t o' t' : Int → Int} (h : W.Cert o t) (h' : W'.Cert o' t') (hn : W'.n = W.n) (T : Int) (hag : ∀ i : Int, 0 ≤ i → i < W.n → t i < T → W'.l i = W.l i ∧ W'.e i = W.e i) :
  ∀ (s : Nat) (τ : Int), τ < T → (∀ i : Int, 0 ≤ i → i < W.n → (τ - s ≤ t i)) → ∀ i : Int, 0 ≤ i → i < W.n → t i ≤ τ → o' i = o i := by
 intro s
 induction s with
 | zero =>
  intro τ hT hlow
  exact level τ hT fun i i0 i1 hi => by have := hlow i i0 i1; omega
 | succ s ih =>
  intro τ hT hlow
  refine level τ hT fun i i0 i1 hi => ih (τ - 1) (by omega) (fun i i0 i1 => by have := hlow i i0 i1; omega) i i0 i1 (by omega)
where
 level (τ : Int) (hT : τ < T) (hbelow : ∀ i : Int, 0 ≤ i → i < W.n → t i < τ → o' i = o i) : ∀ i : Int, 0 ≤ i → i < W.n → t i ≤ τ → o' i = o i := by
  have hr' : ∀ i : Int, 0 ≤ i → i < W.n → 0 ≤ o' i ∧ o' i < W.n := fun i i0 i1 => by have := h'.rng i i0 (by omega); omega
  have hi' : ∀ i j : Int, 0 ≤ i → i < W.n → 0 ≤ j → j < W.n → o' i = o' j → i = j := fun i j i0 i1 j0 j1 => h'.inj i j i0 (by omega) j0 (by omega)
  have hstep : ∀ j : Int, 0 ≤ j → j < W.n → t j = τ → t' (o j) ≤ t' j ∧ (t' (o j) = t' j → o' j = o j) := fun j j0 j1 hj => by
   have hnb := h.notBetter hi' j0 j1 (hr' j j0 j1) (by rw [hj]; exact hbelow)
   obtain ⟨e1, e2⟩ := hag j j0 j1 (by omega)
   have hrk : ∀ k, W'.rk j k = W.rk j k := fun k => by unfold Wish.rk; rw [e1, e2]
   have hon := h.on j j0 j1
   by_cases c : W.rk j (o' j) = W.rk j (o j)
   ·have q1 : W.e j (W.rk j (o j)) = o j := rk_at hon
    have q2 : W.e j (W.rk j (o' j)) = o' j := rk_at (by unfold Wish.rk at c hon; omega)
    have q3 : o' j = o j := by rw [← q1, ← q2, c]
    have := h'.lev j j0 (by omega)
    rw [q3] at this
    exact ⟨by omega, fun _ => q3⟩
   ·have hlt : W.rk j (o j) < W'.rk j (o' j) := by rw [hrk]; omega
    have hr := rk_rng (W.e j) (o j) (W.l j)
    have := h'.best j (W.rk j (o j)) j0 (by omega) hr.1 hlt
    rw [e2, show W.e j (W.rk j (o j)) = o j from rk_at hon] at this
    exact ⟨by omega, fun e => by omega⟩
  intro i i0 i1 hi
  by_cases c : t i < τ
  ·exact hbelow i i0 i1 c
  ·have hiτ : t i = τ := by omega
   have hsum := sm_perm (n := W.n) (by omega) h.rng h.inj (fun k => if t k = τ then t' k else 0)
   have heq := sm_eq (f := fun j => if t (o j) = τ then t' (o j) else 0) (g := fun j => if t j = τ then t' j else 0) (k := W.n) (fun j j0 j1 => by
    rw [h.lev j j0 j1]
    by_cases e : t j = τ
    ·rw [if_pos e, if_pos e]; exact (hstep j j0 j1 e).1
    ·rw [if_neg e, if_neg e]; exact Int.le_refl _) (by rw [hsum]; exact Int.le_refl _) i0 i1
   rw [h.lev i i0 i1, if_pos hiτ, if_pos hiτ] at heq
   exact (hstep i i0 i1 hiτ).2 heq
theorem low_ex (t : Int → Int) : ∀ n : Nat, ∃ m : Int, ∀ i : Int, 0 ≤ i → i < n → m ≤ t i
 | 0 => ⟨0, fun i i0 i1 => by omega⟩
 | n + 1 => by
  obtain ⟨m, hm⟩ := low_ex t n
  refine ⟨min m (t n), fun i i0 i1 => ?_⟩
  by_cases e : i = n
  ·rw [e]; exact Int.min_le_right ..
  ·exact Int.le_trans (Int.min_le_left ..) (hm i i0 (by omega))
theorem Cert.agree {W W' : Wish} {o t o' t' : Int → Int} (h : W.Cert o t) (h' : W'.Cert o' t') (hn : W'.n = W.n) {T : Int} (hag : ∀ i : Int, 0 ≤ i → i < W.n → t i < T → W'.l i = W.l i ∧ W'.e i = W.e i) {i : Int} (i0 : 0 ≤ i) (i1 : i < W.n) (hi : t i < T) : o' i = o i := by
 obtain ⟨m, hm⟩ := low_ex t W.n
 exact h.same h' hn T hag (T - 1 - m).toNat (T - 1) (by omega) (fun i i0 i1 => by have := hm i i0 i1; omega) i i0 i1 (by omega)
theorem Cert.uniq {W : Wish} {o t o' t' : Int → Int} (h : W.Cert o t) (h' : W.Cert o' t') {i : Int} (i0 : 0 ≤ i) (i1 : i < W.n) : o' i = o i :=
 h.agree h' rfl (T := t i + 1) (fun _ _ _ _ => ⟨rfl, rfl⟩) i0 i1 (by omega)
end Wish
end Go.Proofs.YtlldeifbfpmbaaaGreat
