import Derived.Test.YtijffdhailddoaaCanA
import Derived.Test.YtijffdhailddoaaNetQ
set_option maxRecDepth 100000
namespace Go.Proofs.Ytijffdhailddoaa
open Go.RowKit Go.Proofs
theorem pk_mono {P Q : Int → Bool} {k : Nat} (h : ∀ i : Int, 0 ≤ i → i < k → P i = true → Q i = true) : (pk P k).length ≤ (pk Q k).length := by
 induction k with
 | zero => exact Nat.le_refl _
 | succ k ih =>
  have h1 := ih fun i i0 i1 => h i i0 (by omega)
  have h2 := h k (by omega) (by omega)
  unfold pk
  cases hp : P k <;> cases hq : Q k <;> simp_all <;> omega
theorem pk_lt {P Q : Int → Bool} {k : Nat} (h : ∀ i : Int, 0 ≤ i → i < k → P i = true → Q i = true) (x : Int) (h0 : 0 ≤ x) (h1 : x < k) (hp : P x = false) (hq : Q x = true) : (pk P k).length < (pk Q k).length := by
 induction k with
 | zero => omega
 | succ k ih =>
  have hm := pk_mono (P := P) (Q := Q) (k := k) fun i i0 i1 => h i i0 (by omega)
  have h2 := h k (by omega) (by omega)
  by_cases e : x = (k : Int)
  ·subst e
   unfold pk
   rw [hp, hq]
   simp
   omega
  ·have h3 := ih (fun i i0 i1 => h i i0 (by omega)) (by omega)
   unfold pk
   cases hp' : P k <;> cases hq' : Q k <;> simp_all <;> omega
end Go.Proofs.Ytijffdhailddoaa
set_option maxRecDepth 100000
namespace Go.Proofs.Ytijffdhailddoaa
open Go.RowKit Go.Proofs
def IsPay (n : Nat) (p : Int → Int) (a : Int) : Prop := (0 ≤ a ∧ a < n) ∧ p a < 0 ∧ ∀ i : Int, 0 ≤ i → i < n → p i < 0 → ¬ (p i < p a ∨ p i = p a ∧ i < a)
def IsGet (n : Nat) (p : Int → Int) (b : Int) : Prop := (0 ≤ b ∧ b < n) ∧ 0 < p b ∧ ∀ i : Int, 0 ≤ i → i < n → 0 < p i → ¬ (p b < p i ∨ p i = p b ∧ i < b)
theorem IsPay.uniq {n : Nat} {p : Int → Int} {a b : Int} (h : IsPay n p a) (h' : IsPay n p b) : a = b := by
 have h1 := h.2.2 b h'.1.1 h'.1.2 h'.2.1
 have h2 := h'.2.2 a h.1.1 h.1.2 h.2.1
 omega
theorem IsGet.uniq {n : Nat} {p : Int → Int} {a b : Int} (h : IsGet n p a) (h' : IsGet n p b) : a = b := by
 have h1 := h.2.2 b h'.1.1 h'.1.2 h'.2.1
 have h2 := h'.2.2 a h.1.1 h.1.2 h.2.1
 omega
open Classical in
noncomputable def payer (n : Nat) (p : Int → Int) : Int := if h : ∃ a, IsPay n p a then Classical.choose h else 0
open Classical in
noncomputable def getter (n : Nat) (p : Int → Int) : Int := if h : ∃ a, IsGet n p a then Classical.choose h else 0
theorem payer_eq {n : Nat} {p : Int → Int} {a : Int} (h : IsPay n p a) : payer n p = a := by
 have hx : ∃ a, IsPay n p a := ⟨a, h⟩
 unfold payer; rw [dif_pos hx]; exact (Classical.choose_spec hx).uniq h
theorem getter_eq {n : Nat} {p : Int → Int} {a : Int} (h : IsGet n p a) : getter n p = a := by
 have hx : ∃ a, IsGet n p a := ⟨a, h⟩
 unfold getter; rw [dif_pos hx]; exact (Classical.choose_spec hx).uniq h
noncomputable def moved (n : Nat) (p : Int → Int) : Int := min (-(p (payer n p))) (p (getter n p))
def tfr (p : Int → Int) (a b x : Int) : Int → Int := upd (upd p a (p a + x)) b (upd p a (p a + x) b - x)
noncomputable def nxt (n : Nat) (p : Int → Int) : Int → Int := tfr p (payer n p) (getter n p) (moved n p)
noncomputable def stP (n : Nat) (p : Int → Int) : Nat → Int → Int
 | 0 => p
 | k + 1 => nxt n (stP n p k)
structure Settled (n : Nat) (p : Int → Int) (K : Nat) : Prop where
 some : ∀ k, k < K → ∃ i : Int, 0 ≤ i ∧ i < n ∧ stP n p k i < 0
 none : ∀ i : Int, 0 ≤ i → i < n → 0 ≤ stP n p K i
theorem tfr_sum {n : Nat} {p : Int → Int} {a b x : Int} (a0 : 0 ≤ a) (a1 : a < n) (b0 : 0 ≤ b) (b1 : b < n) : sm (tfr p a b x) n = sm p n := by
 unfold tfr
 rw [sm_upd _ b _ b0 b1, sm_upd _ a _ a0 a1]
 omega
theorem tfr_at {p : Int → Int} {a b x : Int} (hab : a ≠ b) (i : Int) : tfr p a b x i = if i = a then p a + x else if i = b then p b - x else p i := by
 unfold tfr upd
 by_cases h1 : i = b
 ·subst h1; rw [if_pos rfl, if_neg (fun e => hab e.symm), if_neg (fun e => hab e.symm), if_pos rfl]
 ·rw [if_neg h1, if_neg h1]
theorem sum_pos {n : Nat} {p : Int → Int} (hs : sm p n = 0) {a : Int} (a0 : 0 ≤ a) (a1 : a < n) (ha : p a < 0) : ∃ b : Int, 0 ≤ b ∧ b < n ∧ 0 < p b := by
 refine Classical.byContradiction fun hx => ?_
 have hall : ∀ i : Int, 0 ≤ i → i < n → 0 ≤ -(p i) := fun i i0 i1 => by
  refine Classical.byContradiction fun hy => hx ⟨i, i0, i1, by omega⟩
 have h1 := sm_pos (f := fun i => -(p i)) (k := n) hall a a0 a1
 have h2 : sm (fun i => -(p i)) n = -(sm p n) := by
  have := sm_mul (-1) p n
  rw [show (fun i => -(p i)) = (fun i => -1 * p i) from funext fun i => by omega, this]; omega
 omega
theorem all_zero {n : Nat} {p : Int → Int} (hs : sm p n = 0) (h : ∀ i : Int, 0 ≤ i → i < n → 0 ≤ p i) : ∀ i : Int, 0 ≤ i → i < n → p i = 0 := fun i i0 i1 => by
 have h1 := sm_pos (f := p) (k := n) h i i0 i1
 have h2 := h i i0 i1
 omega
theorem pay_ex {n : Nat} {p : Int → Int} {a : Int} (a0 : 0 ≤ a) (a1 : a < n) (ha : p a < 0) : ∃ b, IsPay n p b := by
 have key : ∀ k : Nat, (k : Int) ≤ n → (∃ i : Int, 0 ≤ i ∧ i < k ∧ p i < 0) → ∃ b : Int, (0 ≤ b ∧ b < k) ∧ p b < 0 ∧ ∀ i : Int, 0 ≤ i → i < k → p i < 0 → ¬ (p i < p b ∨ p i = p b ∧ i < b) := by
  intro k
  induction k with
  | zero => rintro _ ⟨i, i0, i1, _⟩; omega
  | succ k ih =>
   intro hk hx
   by_cases hx' : ∃ i : Int, 0 ≤ i ∧ i < k ∧ p i < 0
   ·obtain ⟨b, hb1, hb2, hb3⟩ := ih (by omega) hx'
    by_cases hc : p k < p b
    ·exact ⟨k, by omega, by omega, fun i i0 i1 hi => by
      by_cases e : i = k
      ·subst e; omega
      ·have := hb3 i i0 (by omega) hi; omega⟩
    ·exact ⟨b, by omega, hb2, fun i i0 i1 hi => by
      by_cases e : i = k
      ·subst e; omega
      ·exact hb3 i i0 (by omega) hi⟩
   ·obtain ⟨i, i0, i1, hi⟩ := hx
    have : i = k := by
     refine Classical.byContradiction fun e => hx' ⟨i, i0, by omega, hi⟩
    subst this
    exact ⟨k, by omega, hi, fun j j0 j1 hj => by
     by_cases e : j = k
     ·subst e; omega
     ·exact absurd ⟨j, j0, by omega, hj⟩ hx'⟩
 exact key n (Int.le_refl _) ⟨a, a0, a1, ha⟩
theorem get_ex {n : Nat} {p : Int → Int} {a : Int} (a0 : 0 ≤ a) (a1 : a < n) (ha : 0 < p a) : ∃ b, IsGet n p b := by
 obtain ⟨b, h1, h2, h3⟩ := pay_ex (p := fun i => -(p i)) a0 a1 (show -(p a) < 0 by omega)
 have h2 : -(p b) < 0 := h2
 exact ⟨b, h1, by omega, fun i i0 i1 hi => by have h4 : ¬ (-(p i) < -(p b) ∨ -(p i) = -(p b) ∧ i < b) := h3 i i0 i1 (show -(p i) < 0 by omega); omega⟩
theorem step_ok {n : Nat} {p : Int → Int} (hs : sm p n = 0) (hx : ∃ i : Int, 0 ≤ i ∧ i < n ∧ p i < 0) : ∃ a b, IsPay n p a ∧ IsGet n p b ∧ payer n p = a ∧ getter n p = b := by
 obtain ⟨i, i0, i1, hi⟩ := hx
 obtain ⟨a, ha⟩ := pay_ex i0 i1 hi
 obtain ⟨j, j0, j1, hj⟩ := sum_pos hs i0 i1 hi
 obtain ⟨b, hb⟩ := get_ex j0 j1 hj
 exact ⟨a, b, ha, hb, payer_eq ha, getter_eq hb⟩
theorem stP_sum {n : Nat} {p : Int → Int} (hs : sm p n = 0) : ∀ k, (∀ j, j < k → ∃ i : Int, 0 ≤ i ∧ i < n ∧ stP n p j i < 0) → sm (stP n p k) n = 0 := by
 intro k
 induction k with
 | zero => intro _; exact hs
 | succ k ih =>
  intro h
  have h1 := ih fun j hj => h j (by omega)
  obtain ⟨a, b, ha, hb, e1, e2⟩ := step_ok h1 (h k (by omega))
  show sm (nxt n (stP n p k)) n = 0
  unfold nxt
  rw [e1, e2, tfr_sum ha.1.1 ha.1.2 hb.1.1 hb.1.2]; exact h1
def nz (n : Nat) (p : Int → Int) : Nat := (pk (fun i => decide (p i ≠ 0)) n).length
theorem nz_step {n : Nat} {p : Int → Int} {a b : Int} (ha : IsPay n p a) (hb : IsGet n p b) : nz n (tfr p a b (min (-(p a)) (p b))) < nz n p := by
 have hab : a ≠ b := fun e => by have := ha.2.1; have := hb.2.1; rw [e] at *; omega
 have h1 := ha.2.1
 have h2 := hb.2.1
 have hle : ∀ i : Int, 0 ≤ i → i < n → decide (tfr p a b (min (-(p a)) (p b)) i ≠ 0) = true → decide (p i ≠ 0) = true := fun i _ _ hi => by
  have hi := of_decide_eq_true hi
  rw [tfr_at hab] at hi
  refine decide_eq_true ?_
  split at hi
  ·rename_i e; rw [e]; omega
  ·split at hi
   ·rename_i e; rw [e]; omega
   ·exact hi
 by_cases q : -(p a) ≤ p b
 ·exact pk_lt hle a ha.1.1 ha.1.2 (decide_eq_false (by rw [tfr_at hab, if_pos rfl]; omega)) (decide_eq_true (by omega))
 ·exact pk_lt hle b hb.1.1 hb.1.2 (decide_eq_false (by rw [tfr_at hab, if_neg (fun e => hab e.symm), if_pos rfl]; omega)) (decide_eq_true (by omega))
theorem nz_two {n : Nat} {p : Int → Int} {a b : Int} (ha : IsPay n p a) (hb : IsGet n p b) : 2 ≤ nz n p := by
 have hab : a ≠ b := fun e => by have := ha.2.1; have := hb.2.1; rw [e] at *; omega
 have h1 : 0 < nz n (upd p a 0) := List.length_pos_of_mem (pk_mem.2 ⟨hb.1.1, hb.1.2, decide_eq_true (by rw [upd_ne _ _ (fun e => hab e.symm)]; have := hb.2.1; omega)⟩)
 have h2 : nz n (upd p a 0) < nz n p := pk_lt (fun i _ _ hi => by
  have hi := of_decide_eq_true hi
  refine decide_eq_true ?_
  unfold upd at hi
  split at hi
  ·exact absurd rfl hi
  ·exact hi) a ha.1.1 ha.1.2 (decide_eq_false (by rw [upd_same]; simp)) (decide_eq_true (by have := ha.2.1; omega))
 omega
theorem stP_nz {n : Nat} {p : Int → Int} (hs : sm p n = 0) : ∀ k, (∀ j, j < k → ∃ i : Int, 0 ≤ i ∧ i < n ∧ stP n p j i < 0) → k + nz n (stP n p k) ≤ n := by
 intro k
 induction k with
 | zero => intro _; have := pk_len (fun i => decide (p i ≠ 0)) n; show 0 + nz n p ≤ n; unfold nz; omega
 | succ k ih =>
  intro h
  have h1 := ih fun j hj => h j (by omega)
  obtain ⟨a, b, ha, hb, e1, e2⟩ := step_ok (stP_sum hs k fun j hj => h j (by omega)) (h k (by omega))
  have h2 := nz_step ha hb
  have e : stP n p (k + 1) = tfr (stP n p k) a b (min (-(stP n p k a)) (stP n p k b)) := by
   show nxt n (stP n p k) = _
   unfold nxt moved
   rw [e1, e2]
  rw [e]
  omega
theorem Settled.few {n : Nat} {p : Int → Int} (hs : sm p n = 0) (hn : 1 ≤ n) {K : Nat} (h : Settled n p K) : K < n := by
 cases K with
 | zero => omega
 | succ k =>
  have h1 := stP_nz hs k fun j hj => h.some j (by omega)
  obtain ⟨a, b, ha, hb, _, _⟩ := step_ok (stP_sum hs k fun j hj => h.some j (by omega)) (h.some k (by omega))
  have := nz_two ha hb
  omega
theorem Settled.amount {n : Nat} {p : Int → Int} (hs : sm p n = 0) {K : Nat} (h : Settled n p K) {k : Nat} (hk : k < K) : 1 ≤ moved n (stP n p k) ∧ (0 ≤ payer n (stP n p k) ∧ payer n (stP n p k) < n) ∧ 0 ≤ getter n (stP n p k) ∧ getter n (stP n p k) < n ∧ payer n (stP n p k) ≠ getter n (stP n p k) := by
 obtain ⟨a, b, ha, hb, e1, e2⟩ := step_ok (stP_sum hs k fun j hj => h.some j (by omega)) (h.some k hk)
 unfold moved
 rw [e1, e2]
 have h1 := ha.2.1
 have h2 := hb.2.1
 exact ⟨by omega, ha.1, hb.1.1, hb.1.2, fun e => by rw [e] at h1; omega⟩
theorem ps_sum (n : Nat) (D : Int → Int → Int) : sm (ps n D) n = 0 := by
 unfold ps
 rw [sm_sub, sm_swap (fun v i => D i v) n n]
 exact Int.sub_self _
end Go.Proofs.Ytijffdhailddoaa
