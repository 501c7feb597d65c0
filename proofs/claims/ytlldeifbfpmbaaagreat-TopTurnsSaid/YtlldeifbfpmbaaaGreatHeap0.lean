import Derived.Test.YtlldeifbfpmbaaaGreatLate
set_option maxRecDepth 100000
namespace Go.Proofs.YtlldeifbfpmbaaaGreat
open Go.RowKit Go.Proofs
theorem ov_quoT {P : Program} {N : Nat} {o : Oper} {F : Fr} {w : World} {T U : TypeId} {x y : Operand} {m n : Int} (ho : o.op = .binOp .quo T x y U) (hx : Fr.ev F x = some (.int .i64 m)) (hy : Fr.ev F y = some (.int .i64 n)) (hm : -1 ≤ m ∧ m ≤ 9223372036854775807) (hn : 2 ≤ n) : OpV P N o F w (.int .i64 (max 0 m / n)) := by
 refine ov_bin ho hx hy ?_
 have h1 : m.tdiv n = max 0 m / n := by
  by_cases h : 0 ≤ m
  ·rw [show max 0 m = m by omega]; exact Int.tdiv_eq_ediv_of_nonneg h
  ·rw [show m = -1 by omega, show max (0 : Int) (-1) = 0 by decide, Int.zero_ediv, Int.neg_tdiv, Int.tdiv_eq_ediv_of_nonneg (by omega), Int.ediv_eq_zero_of_lt (by omega) (by omega)]; rfl
 have h2 : max 0 m / n ≤ max 0 m := Int.ediv_le_self _ (by omega)
 have h3 : 0 ≤ max 0 m / n := Int.ediv_nonneg (by omega) (by omega)
 simp [binOp, Op.intDiv, show n ≠ 0 by omega, h1, IntWalk.i64_in (max 0 m / n) (by omega)]
def bf (P A : Int → Int) (k l : Int) : Prop := A l < A k ∨ A k = A l ∧ P k < P l
def tr (i j k : Int) : Int := if k = j then i else if k = i then j else k
def sw (f : Int → Int) (i j : Int) : Int → Int := fun k => f (tr i j k)
def HP (n : Int) (P A : Int → Int) : Prop := ∀ k : Int, 1 ≤ k → k < n → ¬ bf P A k ((k - 1) / 2)
structure UP (n : Int) (P A : Int → Int) (j : Int) : Prop where
 rest : ∀ k : Int, 1 ≤ k → k < n → k ≠ j → ¬ bf P A k ((k - 1) / 2)
 grand : 1 ≤ j → ∀ c : Int, 1 ≤ c → c < n → (c - 1) / 2 = j → ¬ bf P A c ((j - 1) / 2)
structure DN (n : Int) (P A : Int → Int) (i : Int) : Prop where
 rest : ∀ k : Int, 1 ≤ k → k < n → (k - 1) / 2 ≠ i → ¬ bf P A k ((k - 1) / 2)
 grand : 1 ≤ i → ∀ c : Int, 1 ≤ c → c < n → (c - 1) / 2 = i → ¬ bf P A c ((i - 1) / 2)
theorem tr_l (i j : Int) : tr i j j = i := if_pos rfl
theorem tr_r (i j : Int) : tr i j i = j := by unfold tr; split; rename_i e; exact e; exact if_pos rfl
theorem tr_o {i j k : Int} (h1 : k ≠ i) (h2 : k ≠ j) : tr i j k = k := by unfold tr; rw [if_neg h2, if_neg h1]
theorem tr_tr (i j k : Int) : tr i j (tr i j k) = k := by
 by_cases h1 : k = j
 ·subst h1; rw [tr_l, tr_r]
 ·by_cases h2 : k = i
  ·subst h2; rw [tr_r, tr_l]
  ·rw [tr_o h2 h1, tr_o h2 h1]
theorem tr_rng {i j k n : Int} (i0 : 0 ≤ i) (i1 : i < n) (j0 : 0 ≤ j) (j1 : j < n) (k0 : 0 ≤ k) (k1 : k < n) : 0 ≤ tr i j k ∧ tr i j k < n := by
 unfold tr; split; omega; split <;> omega
theorem bf_sw (P A : Int → Int) (i j k l : Int) : bf (sw P i j) (sw A i j) k l ↔ bf P A (tr i j k) (tr i j l) := Iff.rfl
theorem bf_trans {P A : Int → Int} {k l m : Int} (h1 : ¬ bf P A k l) (h2 : ¬ bf P A l m) : ¬ bf P A k m := by
 unfold bf at *; omega
theorem bf_asym {P A : Int → Int} {k l : Int} (h : bf P A k l) : ¬ bf P A l k := by
 unfold bf at *; omega
theorem bf_irrefl (P A : Int → Int) (k : Int) : ¬ bf P A k k := by
 unfold bf; omega
theorem UP.stop {n : Int} {P A : Int → Int} {j : Int} (h : UP n P A j) (hj : j = 0 ∨ ¬ bf P A j ((j - 1) / 2)) : HP n P A := fun k k0 k1 => by
 by_cases e : k = j
 ·subst e; rcases hj with h0 | h0
  ·omega
  ·exact h0
 ·exact h.rest k k0 k1 e
theorem UP.step {n : Int} {P A : Int → Int} {i j : Int} (h : UP n P A j) (j0 : 1 ≤ j) (j1 : j < n) (hi : i = (j - 1) / 2) (hb : bf P A j i) : UP n (sw P i j) (sw A i j) i := by
 have i0 : 0 ≤ i := by omega
 have ij : i < j := by omega
 refine ⟨fun k k0 k1 hk => ?_, fun hi1 c c0 c1 hc => ?_⟩
 ·rw [bf_sw]
  by_cases e : k = j
  ·subst e
   rw [tr_l, ← hi, tr_r]; exact bf_asym hb
  ·rw [tr_o hk e]
   by_cases e2 : (k - 1) / 2 = i
   ·rw [e2, tr_r]
    have h1 := h.rest k k0 k1 e
    rw [e2] at h1
    exact bf_trans h1 (bf_asym hb)
   ·by_cases e3 : (k - 1) / 2 = j
    ·rw [e3, tr_l, hi]
     exact h.grand j0 k k0 k1 e3
    ·rw [tr_o e2 e3]; exact h.rest k k0 k1 e
 ·rw [bf_sw, tr_o (k := (i - 1) / 2) (by omega) (by omega)]
  have hp := h.rest i hi1 (by omega) (by omega)
  by_cases e : c = j
  ·subst e; rw [tr_l]; exact hp
  ·rw [tr_o (by omega) e]
   have h1 := h.rest c c0 c1 e
   rw [hc] at h1
   exact bf_trans h1 hp
theorem DN.stop {n : Int} {P A : Int → Int} {i : Int} (h : DN n P A i) (hi : ∀ k : Int, 1 ≤ k → k < n → (k - 1) / 2 = i → ¬ bf P A k i) : HP n P A := fun k k0 k1 => by
 by_cases e : (k - 1) / 2 = i
 ·rw [e]; exact hi k k0 k1 e
 ·exact h.rest k k0 k1 e
theorem DN.step {n : Int} {P A : Int → Int} {i j : Int} (h : DN n P A i) (i0 : 0 ≤ i) (j1 : j < n) (hj : j = 2 * i + 1 ∨ j = 2 * i + 2) (hb : bf P A j i) (ho : ∀ k : Int, 1 ≤ k → k < n → (k - 1) / 2 = i → ¬ bf P A k j) : DN n (sw P i j) (sw A i j) j := by
 have pj : (j - 1) / 2 = i := by omega
 refine ⟨fun k k0 k1 hk => ?_, fun hj1 c c0 c1 hc => ?_⟩
 ·rw [bf_sw]
  by_cases e : k = i
  ·subst e
   rw [tr_r, tr_o (k := (k - 1) / 2) (by omega) (by omega)]
   exact h.grand k0 j (by omega) j1 pj
  ·by_cases e2 : (k - 1) / 2 = i
   ·rw [e2, tr_r]
    by_cases e3 : k = j
    ·subst e3; rw [tr_l]; exact bf_asym hb
    ·rw [tr_o e e3]; exact ho k k0 k1 e2
   ·have e3 : k ≠ j := fun e3 => by rw [e3] at e2; exact e2 pj
    rw [tr_o e e3, tr_o e2 hk]; exact h.rest k k0 k1 e2
 ·rw [bf_sw, pj, tr_r, tr_o (k := c) (by omega) (by omega)]
  have h1 := h.rest c c0 c1 (by omega)
  rw [hc] at h1; exact h1
theorem HP.top {n : Int} {P A : Int → Int} (h : HP n P A) : ∀ (t : Nat) (k : Int), k.toNat = t → 0 ≤ k → k < n → ¬ bf P A k 0 := by
 intro t
 induction t using Nat.strongRecOn with
 | _ t ih =>
  intro k hk k0 k1
  by_cases e : k = 0
  ·rw [e]; exact bf_irrefl P A 0
  ·exact bf_trans (h k (by omega) k1) (ih ((k - 1) / 2).toNat (by omega) _ rfl (by omega) (by omega))
structure Cont (N : Int) (n : Int) (P A : Int → Int) (S : Int → Int) : Prop where
 at_ : ∀ k : Int, 0 ≤ k → k < n → (0 ≤ P k ∧ P k < N) ∧ A k = S (P k) ∧ 0 < A k
 inj : ∀ k l : Int, 0 ≤ k → k < n → 0 ≤ l → l < n → P k = P l → k = l
 all : ∀ i : Int, 0 ≤ i → i < N → 0 < S i → ∃ k : Int, 0 ≤ k ∧ k < n ∧ P k = i
theorem Cont.sw {N n : Int} {P A S : Int → Int} (h : Cont N n P A S) {i j : Int} (i0 : 0 ≤ i) (i1 : i < n) (j0 : 0 ≤ j) (j1 : j < n) : Cont N n (sw P i j) (sw A i j) S := by
 refine ⟨fun k k0 k1 => ?_, fun k l k0 k1 l0 l1 e => ?_, fun v v0 v1 hv => ?_⟩
 ·have := tr_rng i0 i1 j0 j1 k0 k1
  exact h.at_ _ this.1 this.2
 ·have q1 := tr_rng i0 i1 j0 j1 k0 k1
  have q2 := tr_rng i0 i1 j0 j1 l0 l1
  have := h.inj _ _ q1.1 q1.2 q2.1 q2.2 e
  rw [← tr_tr i j k, this, tr_tr]
 ·obtain ⟨k, k0, k1, hk⟩ := h.all v v0 v1 hv
  have q1 := tr_rng i0 i1 j0 j1 k0 k1
  exact ⟨tr i j k, q1.1, q1.2, by show P (tr i j (tr i j k)) = v; rw [tr_tr]; exact hk⟩
theorem Cont.push {N n : Int} {P A S : Int → Int} (h : Cont N n P A S) {p a : Int} (p0 : 0 ≤ p) (p1 : p < N) (hs : S p = 0) (ha : 0 < a) (n0 : 0 ≤ n) : Cont N (n + 1) (upd P n p) (upd A n a) (upd S p a) := by
 have hne : ∀ k : Int, 0 ≤ k → k < n → P k ≠ p := fun k k0 k1 e => by have := h.at_ k k0 k1; rw [e] at this; omega
 refine ⟨fun k k0 k1 => ?_, fun k l k0 k1 l0 l1 e => ?_, fun v v0 v1 hv => ?_⟩
 ·by_cases e : k = n
  ·subst e; rw [upd_same, upd_same, upd_same]; exact ⟨⟨p0, p1⟩, rfl, ha⟩
  ·rw [upd_ne _ _ e, upd_ne _ _ e, upd_ne _ _ (hne k k0 (by omega))]; exact h.at_ k k0 (by omega)
 ·by_cases e1 : k = n <;> by_cases e2 : l = n
  ·omega
  ·rw [e1, upd_same, upd_ne _ _ e2] at e; exact absurd e.symm (hne l l0 (by omega))
  ·rw [e2, upd_same, upd_ne _ _ e1] at e; exact absurd e (hne k k0 (by omega))
  ·rw [upd_ne _ _ e1, upd_ne _ _ e2] at e; exact h.inj k l k0 (by omega) l0 (by omega) e
 ·by_cases e : v = p
  ·exact ⟨n, n0, by omega, by rw [upd_same]; exact e.symm⟩
  ·rw [upd_ne _ _ e] at hv
   obtain ⟨k, k0, k1, hk⟩ := h.all v v0 v1 hv
   exact ⟨k, k0, by omega, by rw [upd_ne _ _ (by omega)]; exact hk⟩
theorem Cont.pop {N n : Int} {P A S : Int → Int} (h : Cont N n P A S) (n1 : 1 ≤ n) : Cont N (n - 1) P A (upd S (P (n - 1)) 0) := by
 have hne : ∀ k : Int, 0 ≤ k → k < n - 1 → P k ≠ P (n - 1) := fun k k0 k1 e => by have := h.inj k (n - 1) k0 (by omega) (by omega) (by omega) e; omega
 refine ⟨fun k k0 k1 => ?_, fun k l k0 k1 l0 l1 e => h.inj k l k0 (by omega) l0 (by omega) e, fun v v0 v1 hv => ?_⟩
 ·rw [upd_ne _ _ (hne k k0 k1)]; exact h.at_ k k0 (by omega)
 ·by_cases e : v = P (n - 1)
  ·rw [e, upd_same] at hv; omega
  ·rw [upd_ne _ _ e] at hv
   obtain ⟨k, k0, k1, hk⟩ := h.all v v0 v1 hv
   refine ⟨k, k0, ?_, hk⟩
   have : k ≠ n - 1 := fun e' => by rw [e'] at hk; exact e hk.symm
   omega
end Go.Proofs.YtlldeifbfpmbaaaGreat
