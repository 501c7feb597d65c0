import Derived.Test.YtbepolognfdkeaaGaN
set_option maxRecDepth 100000
namespace Go.Proofs.Ytbepolognfdkeaa
namespace Lds
def late (l : Lds) (D : Int) : Lds := { l with d := fun i => l.d i + D }
theorem Can.later {l : Lds} {k D E : Int} (h : (l.late D).Can k) (hE : D ≤ E) : (l.late E).Can k := by
 obtain ⟨x, h1, h2, h3, h4⟩ := h
 refine ⟨x, h1, fun i t i0 i1 hne => ?_, h3, h4⟩
 have h : l.r i ≤ t ∧ t < l.d i + D := h2 i t i0 i1 hne
 show l.r i ≤ t ∧ t < l.d i + E
 omega
theorem late_zero (l : Lds) : l.late 0 = l := by
 unfold late
 have : (fun i => l.d i + 0) = l.d := funext fun i => Int.add_zero _
 rw [this]
def skp (x i : Int) : Int := if i < x then i else i + 1
def del (l : Lds) (x : Int) : Lds := ⟨l.n - 1, fun i => l.r (skp x i), fun i => l.d (skp x i), fun i => l.len (skp x i), fun i => l.wo (skp x i)⟩
theorem skp_rng {x i : Int} {n : Nat} (x0 : 0 ≤ x) (x1 : x < n) (i0 : 0 ≤ i) (i1 : i < ((n - 1 : Nat) : Int)) : 0 ≤ skp x i ∧ skp x i < n ∧ skp x i ≠ x := by
 unfold skp; split <;> omega
theorem Valid.del {l : Lds} (h : l.Valid) {x : Int} (x0 : 0 ≤ x) (x1 : x < l.n) : (l.del x).Valid := fun i i0 i1 => by
 have hr := skp_rng x0 x1 i0 i1
 exact h (skp x i) hr.1 hr.2.1
end Lds
theorem sm_del (f : Int → Int) {x : Int} {n : Nat} (x0 : 0 ≤ x) (x1 : x < n) : sm f n = sm (fun i => f (Lds.skp x i)) ((n - 1 : Nat) : Int) + f x := by
 rw [sm_shift f (show 0 ≤ x + 1 by omega) (show x + 1 ≤ n by omega), sm_succ f x0, sm_shift (fun i => f (Lds.skp x i)) x0 (show x ≤ ((n - 1 : Nat) : Int) by omega)]
 rw [sm_congr (f := fun i => f (Lds.skp x i)) (g := f) (k := x) fun i i0 i1 => by unfold Lds.skp; rw [if_pos i1]]
 rw [sm_congr (f := fun i => f (Lds.skp x (x + i))) (g := fun i => f (x + 1 + i)) fun i i0 i1 => by unfold Lds.skp; rw [if_neg (by omega), show x + i + 1 = x + 1 + i by omega]]
 rw [show ((n - 1 : Nat) : Int) - x = (n : Int) - (x + 1) by omega]
 omega
theorem Lds.Can.del {l : Lds} {k x : Int} (h : l.Can k) (x0 : 0 ≤ x) (x1 : x < l.n) : (l.del x).Can k := by
 obtain ⟨y, h1, h2, h3, h4⟩ := h
 refine ⟨fun i => y (skp x i), fun i t i0 i1 => ?_, fun i t i0 i1 hne => ?_, fun i i0 i1 => ?_, fun t t0 t1 => ?_⟩
 ·have hr := skp_rng x0 x1 i0 i1; exact h1 _ t hr.1 hr.2.1
 ·have hr := skp_rng x0 x1 i0 i1; exact h2 _ t hr.1 hr.2.1 hne
 ·have hr := skp_rng x0 x1 i0 i1; exact h3 _ hr.1 hr.2.1
 ·have a := h4 t t0 t1
  rw [sm_del (fun i => y i t) x0 x1] at a
  have b := (h1 x t x0 x1).1
  show sm (fun i => y (skp x i) t) ((l.n - 1 : Nat) : Int) ≤ k
  omega
theorem Lds.Can.ins {l : Lds} {k x : Int} (hV : l.Valid) (x0 : 0 ≤ x) (x1 : x < l.n) (h : (l.del x).Can k) : l.Can (k + 1) := by
 obtain ⟨y, h1, h2, h3, h4⟩ := h
 have hb : ∀ i : Int, 0 ≤ i → i < l.n → i ≠ x → ∃ j : Int, (0 ≤ j ∧ j < ((l.n - 1 : Nat) : Int)) ∧ skp x j = i ∧ (if i < x then i else i - 1) = j := fun i i0 i1 hne => by
  by_cases c : i < x
  ·exact ⟨i, by omega, by unfold skp; rw [if_pos c], by rw [if_pos c]⟩
  ·exact ⟨i - 1, by omega, by unfold skp; rw [if_neg (by omega)]; omega, by rw [if_neg c]⟩
 refine ⟨fun i t => if i = x then ind (l.r x ≤ t ∧ t < l.r x + l.len x) else y (if i < x then i else i - 1) t, fun i t i0 i1 => ?_, fun i t i0 i1 hne => ?_, fun i i0 i1 => ?_, fun t t0 t1 => ?_⟩
 ·by_cases c : i = x
  ·rw [if_pos c]; exact ind_rng _
  ·rw [if_neg c]
   obtain ⟨j, hj, e, e2⟩ := hb i i0 i1 c
   rw [e2]; exact h1 j t hj.1 hj.2
 ·by_cases c : i = x
  ·have hne : (if i = x then ind (l.r x ≤ t ∧ t < l.r x + l.len x) else y (if i < x then i else i - 1) t) ≠ 0 := hne
   rw [if_pos c] at hne
   have h5 := (hV x x0 x1).2.2.2.2.1
   by_cases c2 : l.r x ≤ t ∧ t < l.r x + l.len x
   ·rw [c]; omega
   ·exact absurd (ind_f c2) hne
  ·have hne : (if i = x then ind (l.r x ≤ t ∧ t < l.r x + l.len x) else y (if i < x then i else i - 1) t) ≠ 0 := hne
   rw [if_neg c] at hne
   obtain ⟨j, hj, e, e2⟩ := hb i i0 i1 c
   rw [e2] at hne
   have := h2 j t hj.1 hj.2 hne
   rw [← e]; exact this
 ·by_cases c : i = x
  ·have h := hV x x0 x1
   unfold Lds.Val at h
   rw [c, sm_congr (g := fun t => ind (l.r x ≤ t ∧ t < l.r x + l.len x)) fun t _ _ => if_pos rfl, sm_span h.1 (by omega)]; omega
  ·obtain ⟨j, hj, e, e2⟩ := hb i i0 i1 c
   rw [sm_congr (g := y j) fun t _ _ => by rw [if_neg c, e2], h3 j hj.1 hj.2]
   show l.len (skp x j) = l.len i
   rw [e]
 ·rw [sm_del _ x0 x1]
  rw [if_pos rfl, sm_congr (g := fun i => y i t) fun i i0 i1 => ?_]
  ·have a := h4 t t0 t1
   have b := (ind_rng (l.r x ≤ t ∧ t < l.r x + l.len x)).2
   have a' : sm (fun i => y i t) ((l.n - 1 : Nat) : Int) ≤ k := a
   omega
  ·have hr := skp_rng x0 x1 i0 i1
   rw [if_neg hr.2.2]
   congr 1
   by_cases c : i < x
   ·unfold skp; rw [if_pos c, if_pos c]
   ·unfold skp; rw [if_neg c, if_neg (by omega)]; omega
end Go.Proofs.Ytbepolognfdkeaa
