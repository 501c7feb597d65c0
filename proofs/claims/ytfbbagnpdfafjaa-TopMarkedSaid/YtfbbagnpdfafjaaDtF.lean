import Derived.Test.YtfbbagnpdfafjaaSet2
set_option maxRecDepth 100000
namespace Go.Proofs.Ytfbbagnpdfafjaa
open Go.RowKit Go.Proofs
def addD (D : Int → Int → Int) (a b x : Int) : Int → Int → Int := upd D a (upd (D a) b x)
theorem addD_at (D : Int → Int → Int) (a b x r c : Int) : addD D a b x r c = if r = a ∧ c = b then x else D r c := by
 unfold addD upd
 by_cases h1 : r = a
 ·rw [if_pos h1]
  by_cases h2 : c = b
  ·rw [if_pos h2, if_pos ⟨h1, h2⟩]
  ·rw [if_neg h2, if_neg (fun h => h2 h.2), h1]
 ·rw [if_neg h1, if_neg (fun h => h1 h.1)]
theorem ps_addD {n : Nat} (D : Int → Int → Int) {a b x : Int} (ha : 0 ≤ a ∧ a < n) (hb : 0 ≤ b ∧ b < n) {j : Int} : ps n (addD D a b (D a b + x)) j = ps n D j + (if j = b then x else 0) - (if j = a then x else 0) := by
 unfold ps
 have e1 : sm (fun i => addD D a b (D a b + x) i j) n = sm (fun i => D i j) n + (if j = b then x else 0) := by
  by_cases h : j = b
  ·have e : (fun i => addD D a b (D a b + x) i j) = upd (fun i => D i j) a (D a j + x) := by
    funext i
    rw [addD_at, h]
    unfold upd
    by_cases q : i = a
    ·rw [if_pos ⟨q, rfl⟩, if_pos q]
    ·rw [if_neg (fun h => q h.1), if_neg q]
   rw [e, sm_upd _ _ _ ha.1 ha.2, if_pos h]
   omega
  ·rw [if_neg h, Int.add_zero]
   exact sm_congr fun i _ _ => by rw [addD_at, if_neg (fun hh => h hh.2)]
 have e2 : sm (addD D a b (D a b + x) j) n = sm (D j) n + (if j = a then x else 0) := by
  by_cases h : j = a
  ·have e : addD D a b (D a b + x) j = upd (D j) b (D j b + x) := by
    funext i
    rw [addD_at, h]
    unfold upd
    by_cases q : i = b
    ·rw [if_pos ⟨rfl, q⟩, if_pos q]
    ·rw [if_neg (fun h => q h.2), if_neg q]
   rw [e, sm_upd _ _ _ hb.1 hb.2, if_pos h]
   omega
  ·rw [if_neg h, Int.add_zero]
   exact sm_congr fun i _ _ => by rw [addD_at, if_neg (fun hh => h hh.1)]
 rw [e1, e2]
 omega
structure Debts (k : Nat) (r : Int) (p : Int → Int) (D : Int → Int → Int) : Prop where
 lo : ∀ a b, 0 ≤ D a b
 hi : ∀ a b, D a b ≤ 3020 * (k : Int)
 dia : ∀ a, D a a = 0
 pos : ∀ j : Int, 0 ≤ j → j < 5 → ps 5 D j = p j * r
 rng : ∀ j : Int, (p j).natAbs ≤ 20 * k
theorem Debts.zero (r : Int) : Debts 0 r (fun _ => 0) (fun _ _ => 0) := by
 refine ⟨fun _ _ => Int.le_refl _, fun _ _ => by decide, fun _ => rfl, fun j _ _ => ?_, fun _ => by decide⟩
 unfold ps
 rw [Int.zero_mul]
 exact Int.sub_self _
theorem Debts.next {k : Nat} {r : Int} {p : Int → Int} {D : Int → Int → Int} (h : Debts k r p D) : Debts (k + 1) r p D :=
 ⟨h.lo, fun a b => by have := h.hi a b; omega, h.dia, h.pos, fun j => by have := h.rng j; omega⟩
theorem Debts.step {k : Nat} {r : Int} {p : Int → Int} {D : Int → Int → Int} (h : Debts k r p D) {a b u v q x : Int} (ha : 0 ≤ a ∧ a < 5) (hb : 0 ≤ b ∧ b < 5) (hne : a ≠ b) (hq : 1 ≤ q ∧ q ≤ 20) (hx : 0 ≤ x ∧ x ≤ 3020) (hu : (u = b ∧ v = a ∧ x = q * r) ∨ (u = a ∧ v = b ∧ x = -(q * r))) :
  Debts (k + 1) r (upd (upd p u (p u + q)) v (p v - q)) (addD D a b (D a b + x)) := by
 refine ⟨fun c d => ?_, fun c d => ?_, fun c => ?_, fun j j0 j1 => ?_, fun j => ?_⟩
 ·rw [addD_at]
  have := h.lo a b
  have := h.lo c d
  split <;> omega
 ·rw [addD_at]
  have := h.hi a b
  have := h.hi c d
  split <;> omega
 ·rw [addD_at, if_neg (fun hh => hne (hh.1.symm.trans hh.2))]
  exact h.dia c
 ·rw [show ps 5 (addD D a b (D a b + x)) j = _ from ps_addD (n := 5) D ha hb, h.pos j j0 j1]
  have huv : u ≠ v := by omega
  unfold upd
  by_cases q1 : j = v
  ·rw [if_pos q1]
   have e : (p v - q) * r = p j * r - q * r := by rw [q1, Int.sub_mul]
   rw [e]
   rcases hu with ⟨e1, e2, e3⟩ | ⟨e1, e2, e3⟩
   ·rw [if_neg (by omega), if_pos (by omega)]
    omega
   ·rw [if_pos (by omega), if_neg (by omega)]
    omega
  ·rw [if_neg q1]
   by_cases q2 : j = u
   ·rw [if_pos q2]
    have e : (p u + q) * r = p j * r + q * r := by rw [q2, Int.add_mul]
    rw [e]
    rcases hu with ⟨e1, e2, e3⟩ | ⟨e1, e2, e3⟩
    ·rw [if_pos (by omega), if_neg (by omega)]
     omega
    ·rw [if_neg (by omega), if_pos (by omega)]
     omega
   ·rw [if_neg q2, if_neg (by omega), if_neg (by omega)]
    omega
 ·have h1 := h.rng j
  have h2 := h.rng u
  have h3 := h.rng v
  unfold upd
  split
  ·omega
  ·split <;> omega
theorem Debts.valid {k : Nat} {r : Int} {p : Int → Int} {D : Int → Int → Int} (h : Debts k r p D) (hk : k ≤ 15) : Valid 5 D :=
 ⟨by decide, by decide, h.lo, fun a b => by have := h.hi a b; omega, h.dia⟩
end Go.Proofs.Ytfbbagnpdfafjaa
