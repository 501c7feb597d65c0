import Derived.Test.YtbepolognfdkeaaGreatGbT
import Derived.Test.YtbepolognfdkeaaGreatGaN
set_option maxRecDepth 100000
namespace Go.Proofs.YtbepolognfdkeaaGreat
noncomputable def cnt7 (l : Lds) (X : Int → Int) (k : Int) : Int := sm (fun i => ind (l.In X i k)) l.n
def stepB (T : List Trn) (a b n : Int) : List Trn :=
 if 0 < T.length ∧ (qT T ((T.length : Int) - 1)).2.2 = n ∧ (qT T ((T.length : Int) - 1)).2.1 = a then T.set (T.length - 1) ((qT T ((T.length : Int) - 1)).1, b, n)
 else if 0 < n then T ++ [(a, b, n)] else T
noncomputable def bzK (l : Lds) (X : Int → Int) : Nat → List Trn
 | 0 => []
 | k + 1 => stepB (bzK l X k) (X k) (X (k + 1)) (cnt7 l X k)
theorem stepB_pos {T : List Trn} {a b n : Int} (h : ∀ j : Int, 0 ≤ j → j < T.length → 0 < (qT T j).2.2) : ∀ j : Int, 0 ≤ j → j < (stepB T a b n).length → 0 < (qT (stepB T a b n) j).2.2 := fun j j0 j1 => by
 unfold stepB at j1 ⊢
 by_cases c : 0 < T.length ∧ (qT T ((T.length : Int) - 1)).2.2 = n ∧ (qT T ((T.length : Int) - 1)).2.1 = a
 ·rw [if_pos c] at j1 ⊢
  rw [List.length_set] at j1
  have h1 := h ((T.length : Int) - 1) (by omega) (by omega)
  unfold qT
  rw [List.getD_eq_getElem?_getD, List.getElem?_set]
  by_cases e : T.length - 1 = j.toNat
  ·rw [if_pos e, if_pos (by omega)]
   show 0 < n
   omega
  ·rw [if_neg e]
   have := h j j0 j1
   unfold qT at this
   rw [List.getD_eq_getElem?_getD] at this
   exact this
 ·rw [if_neg c] at j1 ⊢
  by_cases e : 0 < n
  ·rw [if_pos e] at j1 ⊢
   rw [List.length_append] at j1
   unfold qT
   by_cases d : j = T.length
   ·rw [d, Int.toNat_natCast, List.getD_eq_getElem?_getD, List.getElem?_append_right (Nat.le_refl _)]
    simpa using e
   ·have j2 : j < T.length := by have : j < ((T.length + 1 : Nat) : Int) := j1; omega
    rw [List.getD_eq_getElem?_getD, List.getElem?_append_left (by omega)]
    have := h j j0 j2
    unfold qT at this
    rw [List.getD_eq_getElem?_getD] at this
    exact this
  ·rw [if_neg e] at j1 ⊢
   exact h j j0 j1
theorem bzK_pos (l : Lds) (X : Int → Int) : ∀ k : Nat, ∀ j : Int, 0 ≤ j → j < (bzK l X k).length → 0 < (qT (bzK l X k) j).2.2
 | 0 => fun j j0 j1 => by have : j < ((0 : Nat) : Int) := j1; omega
 | k + 1 => stepB_pos (bzK_pos l X k)
theorem stepB_len (T : List Trn) (a b n : Int) : (stepB T a b n).length ≤ T.length + 1 := by
 unfold stepB
 split
 ·rw [List.length_set]; omega
 ·split
  ·rw [List.length_append]; exact Nat.le_refl _
  ·omega
theorem bzK_len (l : Lds) (X : Int → Int) : ∀ k : Nat, (bzK l X k).length ≤ k
 | 0 => Nat.le_refl _
 | k + 1 => Nat.le_trans (stepB_len _ _ _ _) (Nat.succ_le_succ (bzK_len l X k))
theorem bzK_stepB (l : Lds) (X : Int → Int) (k : Nat) : bzK l X (k + 1) = stepB (bzK l X k) (X k) (X (k + 1)) (cnt7 l X k) := rfl
section
variable {l : Lds} {c : Nat} {X : Int → Int} {M : Int}
end
end Go.Proofs.YtbepolognfdkeaaGreat
