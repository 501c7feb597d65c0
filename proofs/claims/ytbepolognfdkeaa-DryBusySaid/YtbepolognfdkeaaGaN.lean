import Derived.Test.YtbepolognfdkeaaGaL
set_option maxRecDepth 100000
namespace Go.Proofs.Ytbepolognfdkeaa
theorem Lds.Can.mono {l : Lds} {k k' : Int} (h : l.Can k) (hk : k ≤ k') : l.Can k' := by
 obtain ⟨x, h1, h2, h3, h4⟩ := h
 exact ⟨x, h1, h2, h3, fun t t0 t1 => Int.le_trans (h4 t t0 t1) hk⟩
theorem Lds.Cr.no {l : Lds} {k : Int} (h : l.Cr k) : ¬ l.Can k := fun ⟨_, hx⟩ => by
 obtain ⟨c, y, hc⟩ := h
 exact hx.no_crush hc
def lAw : Lds := ⟨3, fun _ => 0, fun _ => 2, fun i => if i = 0 then 2 else 1, fun _ => 0⟩
theorem sm3 (f : Int → Int) : sm f 3 = f 0 + f 1 + f 2 := by
 rw [show (3 : Int) = 2 + 1 by decide, sm_succ _ (by decide), show (2 : Int) = 1 + 1 by decide, sm_succ _ (by decide), show (1 : Int) = 0 + 1 by decide, sm_succ _ (by decide), sm_zero]
 simp
theorem i3 {i : Int} (h0 : 0 ≤ i) (h1 : i < ((3 : Nat) : Int)) : i = 0 ∨ i = 1 ∨ i = 2 := by omega
theorem lAw_valid : lAw.Valid := fun i i0 i1 => by
 rcases i3 i0 i1 with rfl | rfl | rfl <;> (unfold Lds.Val lAw; decide)
theorem lAw_two : lAw.Can 2 := by
 have hn : ∀ f : Int → Int, sm f lAw.n = f 0 + f 1 + f 2 := sm3
 refine ⟨fun i h => ind ((if i = 2 then 1 else 0) ≤ h ∧ h < (if i = 1 then 1 else 2)), fun i h _ _ => ind_rng _, fun i h i0 i1 hne => ?_, fun i i0 i1 => ?_, fun t _ _ => ?_⟩
 ·by_cases c : (if i = 2 then 1 else 0) ≤ h ∧ h < (if i = 1 then 1 else 2)
  ·show 0 ≤ h ∧ h < 2
   rcases i3 i0 i1 with rfl | rfl | rfl <;> (simp at c; omega)
  ·exact absurd (ind_f c) hne
 ·rcases i3 i0 i1 with rfl | rfl | rfl
  ·exact sm_span (by decide) (by decide)
  ·exact sm_span (by decide) (by decide)
  ·exact sm_span (by decide) (by decide)
 ·rw [hn]
  by_cases c1 : t = 0
  ·rw [c1]
   have h3 : ind ((if (2 : Int) = 2 then (1 : Int) else 0) ≤ 0 ∧ (0 : Int) < (if (2 : Int) = 1 then 1 else 2)) = 0 := ind_f (by decide)
   have h1 := (ind_rng ((if (0 : Int) = 2 then (1 : Int) else 0) ≤ 0 ∧ (0 : Int) < (if (0 : Int) = 1 then 1 else 2))).2
   have h2 := (ind_rng ((if (1 : Int) = 2 then (1 : Int) else 0) ≤ 0 ∧ (0 : Int) < (if (1 : Int) = 1 then 1 else 2))).2
   omega
  ·have h3 : ind ((if (1 : Int) = 2 then (1 : Int) else 0) ≤ t ∧ t < (if (1 : Int) = 1 then 1 else 2)) = 0 := ind_f (by simp; omega)
   have h1 := (ind_rng ((if (0 : Int) = 2 then (1 : Int) else 0) ≤ t ∧ t < (if (0 : Int) = 1 then 1 else 2))).2
   have h2 := (ind_rng ((if (2 : Int) = 2 then (1 : Int) else 0) ≤ t ∧ t < (if (2 : Int) = 1 then 1 else 2))).2
   omega
theorem lAw_one : ¬ lAw.Can 1 := by
 have hn : ∀ f : Int → Int, sm f lAw.n = f 0 + f 1 + f 2 := sm3
 refine Lds.Cr.no ⟨fun _ => 1, fun h => ind (0 ≤ h ∧ h < 2), fun _ _ _ => by decide, fun _ _ _ => ind_rng _, ?_⟩
 have ho : ∀ i : Int, lAw.outs 1000000000 (fun h => ind (0 ≤ h ∧ h < 2)) i = 0 := fun i => sm_zeroG fun t _ _ => by
  show ind (0 ≤ t ∧ t < 2) * (1 - ind (0 ≤ t ∧ t < 2)) = 0
  by_cases c : 0 ≤ t ∧ t < 2
  ·rw [ind_t c]; rfl
  ·rw [ind_f c]; rfl
 have hs : sm (fun h => ind (0 ≤ h ∧ h < 2)) 1000000000 = 2 := sm_span (by decide) (by decide)
 unfold Lds.need
 rw [hs, hn, ho, ho, ho]
 decide
end Go.Proofs.Ytbepolognfdkeaa
set_option maxRecDepth 100000
namespace Go.Proofs.Ytbepolognfdkeaa
def qT (T : List Trn) (j : Int) : Trn := T.getD j.toNat (0, 0, 0)
noncomputable instance (l : Lds) (k : Int) (T : List Trn) : Decidable (PlanOk l k T) := Classical.propDecidable _
def OrdX (T : List Trn) : Prop := ∀ i : Int, 1 ≤ i → i < T.length → ¬ ((qT T i).2.1 < (qT T (i - 1)).2.1 ∨ (qT T (i - 1)).2.1 = (qT T i).2.1 ∧ (qT T i).1 < (qT T (i - 1)).1)
def Ord7 (T : List Trn) : Prop := T.Pairwise fun a b => a.2.1 < b.2.1 ∨ (a.2.1 = b.2.1 ∧ a.1 ≤ b.1)
noncomputable instance (T : List Trn) : Decidable (OrdX T) := Classical.propDecidable _
end Go.Proofs.Ytbepolognfdkeaa
