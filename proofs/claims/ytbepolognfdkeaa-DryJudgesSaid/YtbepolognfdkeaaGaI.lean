import Derived.Test.YtbepolognfdkeaaGaH
set_option maxRecDepth 100000
namespace Go.Proofs.Ytbepolognfdkeaa
section
variable {l : Lds} {c : Nat} {X : Int → Int} {M : Int}
theorem Cuts.mono (h : Cuts l c X) {a b : Int} (a0 : 0 ≤ a) (ab : a ≤ b) (b1 : b < c) : X a ≤ X b := by
 by_cases e : a = b
 ·rw [e]; exact Int.le_refl _
 ·exact Int.le_of_lt (h.inc a b a0 (by omega) b1)
theorem Cuts.one (h : Cuts l c X) {a b t : Int} (a0 : 0 ≤ a) (a1 : a < ((c - 1 : Nat) : Int)) (b0 : 0 ≤ b) (b1 : b < ((c - 1 : Nat) : Int)) (ha : X a ≤ t ∧ t < X (a + 1)) (hb : X b ≤ t ∧ t < X (b + 1)) : a = b := by
 rcases Int.lt_trichotomy a b with h1 | h1 | h1
 ·have := h.mono (a := a + 1) (b := b) (by omega) (by omega) (by omega); omega
 ·exact h1
 ·have := h.mono (a := b + 1) (b := a) (by omega) (by omega) (by omega); omega
theorem Cuts.span {p t : Int} (p0 : 0 ≤ p) (hp : X p ≤ t) : ∀ {n : Nat}, p + n < c → t < X (p + n) → ∃ k : Int, (0 ≤ k ∧ k < ((c - 1 : Nat) : Int)) ∧ p ≤ k ∧ k < p + n ∧ X k ≤ t ∧ t < X (k + 1)
 | 0, _, h2 => by rw [show p + ((0 : Nat) : Int) = p by omega] at h2; omega
 | n + 1, h1, h2 => by
  by_cases c2 : X (p + n) ≤ t
  ·exact ⟨p + n, by omega, by omega, by omega, c2, by rw [show p + (n : Int) + 1 = p + ((n + 1 : Nat) : Int) by omega]; exact h2⟩
  ·obtain ⟨k, a1, a2, a3, a4⟩ := Cuts.span (n := n) p0 hp (by omega) (by omega)
   exact ⟨k, a1, a2, by omega, a4⟩
theorem Cuts.in_ (h : Cuts l c X) {i t : Int} (i0 : 0 ≤ i) (i1 : i < l.n) (ht : l.r i ≤ t ∧ t < l.d i) : ∃ k : Int, (0 ≤ k ∧ k < ((c - 1 : Nat) : Int)) ∧ l.In X i k ∧ X k ≤ t ∧ t < X (k + 1) := by
 obtain ⟨a, ha, ea⟩ := (h.mem (l.r i)).2 ⟨i, ⟨i0, i1⟩, .inl rfl⟩
 obtain ⟨b, hb, eb⟩ := (h.mem (l.d i)).2 ⟨i, ⟨i0, i1⟩, .inr rfl⟩
 have hab : a < b := Classical.byContradiction fun hn => by
  have := h.mono hb.1 (show b ≤ a by omega) ha.2; omega
 obtain ⟨k, k1, k2, k3, k4⟩ := Cuts.span (c := c) (X := X) (t := t) (n := (b - a).toNat) ha.1 (by omega) (by omega) (by rw [show a + (((b - a).toNat : Nat) : Int) = b by omega]; omega)
 have h1 := h.mono ha.1 k2 (by omega)
 have h2 := h.mono (a := k + 1) (b := b) (by omega) (by omega) hb.2
 exact ⟨k, k1, ⟨by omega, by omega⟩, k4⟩
noncomputable def sp (X : Int → Int) (k t : Int) : Int := ind (X k ≤ t ∧ t < X (k + 1))
theorem Cuts.sp_sum (h : Cuts l c X) (y : Int → Int) {k t : Int} (k0 : 0 ≤ k) (k1 : k < ((c - 1 : Nat) : Int)) (ht : X k ≤ t ∧ t < X (k + 1)) : sm (fun k => y k * sp X k t) ((c - 1 : Nat) : Int) = y k := by
 rw [sm_one1 k0 k1 fun i i0 i1 hne => by unfold sp; rw [ind_f fun e => hne (h.one i0 i1 k0 k1 e ht), Int.mul_zero]]
 unfold sp
 rw [ind_t ht, Int.mul_one]
theorem Cuts.parts (h : Cuts l c X) (y : Int → Int) {i : Int} (i0 : 0 ≤ i) (i1 : i < l.n) (t : Int) : ind (l.r i ≤ t ∧ t < l.d i) * (1 - sm (fun k => y k * sp X k t) ((c - 1 : Nat) : Int)) = sm (fun k => ind (l.In X i k) * (sp X k t * (1 - y k))) ((c - 1 : Nat) : Int) := by
 by_cases ht : l.r i ≤ t ∧ t < l.d i
 ·obtain ⟨k, hk, hin, hs⟩ := h.in_ i0 i1 ht
  rw [ind_t ht, h.sp_sum y hk.1 hk.2 hs, sm_one1 hk.1 hk.2 fun j j0 j1 hne => by unfold sp; rw [ind_f fun e => hne (h.one j0 j1 hk.1 hk.2 e hs)]; simp]
  unfold sp
  rw [ind_t hin, ind_t hs]; omega
 ·rw [ind_f ht, Int.zero_mul]
  refine (sm_zeroG fun k k0 k1 => ?_).symm
  by_cases hin : l.In X i k
  ·unfold sp
   rw [ind_f (p := X k ≤ t ∧ t < X (k + 1)) fun e => ht ⟨Int.le_trans hin.1 e.1, Int.lt_of_lt_of_le e.2 hin.2⟩]; simp
  ·rw [ind_f hin, Int.zero_mul]
theorem Cuts.size (h : Cuts l c X) (hF : l.Fit M) {k : Int} (k0 : 0 ≤ k) (k1 : k < ((c - 1 : Nat) : Int)) : sm (sp X k) M = X (k + 1) - X k := by
 obtain ⟨i, hi, e⟩ := (h.mem (X k)).1 ⟨k, by omega, rfl⟩
 obtain ⟨j, hj, e2⟩ := (h.mem (X (k + 1))).1 ⟨k + 1, by omega, rfl⟩
 have := hF.r0 i hi.1 hi.2
 have := hF.rd i hi.1 hi.2
 have := hF.dM j hj.1 hj.2
 have := hF.rd j hj.1 hj.2
 have h1 := h.inc k (k + 1) k0 (by omega) (by omega)
 unfold sp
 rw [sm_span (by omega) (by omega)]
 omega
theorem Cuts.outs (h : Cuts l c X) (hF : l.Fit M) (y : Int → Int) {i : Int} (i0 : 0 ≤ i) (i1 : i < l.n) : l.outs M (fun t => sm (fun k => y k * sp X k t) ((c - 1 : Nat) : Int)) i = sm (fun k => ind (l.In X i k) * ((X (k + 1) - X k) * (1 - y k))) ((c - 1 : Nat) : Int) := by
 unfold Lds.outs
 rw [sm_congr (g := fun t => sm (fun k => ind (l.In X i k) * (sp X k t * (1 - y k))) ((c - 1 : Nat) : Int)) fun t _ _ => h.parts y i0 i1 t, sm_swap]
 refine sm_congr fun k k0 k1 => ?_
 rw [sm_mul, ← h.size hF k0 k1]
 congr 1
 rw [Int.mul_comm, ← sm_mul]
 exact sm_congr fun t _ _ => Int.mul_comm _ _
theorem CrushK.crush {kilns : Int} {S T : Int → Prop} (h : CrushK l c X kilns S T) (hC : Cuts l c X) (hF : l.Fit M) : l.Crush M kilns (fun i => ind (S i)) (fun t => sm (fun k => ind (T k) * sp X k t) ((c - 1 : Nat) : Int)) := by
 refine ⟨fun i _ _ => ind_rng _, fun t _ _ => ⟨sm_nonneg fun k _ _ => Int.mul_nonneg (ind_rng _).1 (ind_rng _).1, ?_⟩, ?_⟩
 ·by_cases e : ∃ k : Int, (0 ≤ k ∧ k < ((c - 1 : Nat) : Int)) ∧ X k ≤ t ∧ t < X (k + 1)
  ·obtain ⟨k, hk, hs⟩ := e
   rw [hC.sp_sum _ hk.1 hk.2 hs]
   exact (ind_rng _).2
  ·rw [sm_zeroG fun k k0 k1 => by unfold sp; rw [ind_f fun hs => e ⟨k, ⟨k0, k1⟩, hs⟩, Int.mul_zero]]
   decide
 ·have e1 : sm (fun t => sm (fun k => ind (T k) * sp X k t) ((c - 1 : Nat) : Int)) M = sm (fun k => ind (T k) * (X (k + 1) - X k)) ((c - 1 : Nat) : Int) := by
   rw [sm_swap]
   exact sm_congr fun k k0 k1 => by rw [sm_mul, hC.size hF k0 k1]
  rw [e1]
  refine Int.lt_of_lt_of_le h.big (sm_le fun i i0 i1 => ?_)
  rw [hC.outs hF _ i0 i1]
  exact Int.mul_le_mul_of_nonneg_left (by omega) (ind_rng _).1
end
end Go.Proofs.Ytbepolognfdkeaa
