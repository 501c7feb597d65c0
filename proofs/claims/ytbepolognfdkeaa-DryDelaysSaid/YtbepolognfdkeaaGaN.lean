import Derived.Test.YtbepolognfdkeaaGaL
set_option maxRecDepth 100000
namespace Go.Proofs.Ytbepolognfdkeaa
theorem Lds.Can.mono {l : Lds} {k k' : Int} (h : l.Can k) (hk : k ≤ k') : l.Can k' := by
 obtain ⟨x, h1, h2, h3, h4⟩ := h
 exact ⟨x, h1, h2, h3, fun t t0 t1 => Int.le_trans (h4 t t0 t1) hk⟩
theorem Lds.Cr.no {l : Lds} {k : Int} (h : l.Cr k) : ¬ l.Can k := fun ⟨_, hx⟩ => by
 obtain ⟨c, y, hc⟩ := h
 exact hx.no_crush hc
def lAw : Lds := ⟨3, fun _ => 0, fun _ => 2, fun i => if i = 0 then 2 else 1, fun _ => 0⟩
theorem sm3 (f : Int → Int) : sm f 3 = f 0 + f 1 + f 2 := by
 rw [show (3 : Int) = 2 + 1 by decide, sm_succ _ (by decide), show (2 : Int) = 1 + 1 by decide, sm_succ _ (by decide), show (1 : Int) = 0 + 1 by decide, sm_succ _ (by decide), sm_zero]
 simp
theorem i3 {i : Int} (h0 : 0 ≤ i) (h1 : i < ((3 : Nat) : Int)) : i = 0 ∨ i = 1 ∨ i = 2 := by omega
theorem lAw_valid : lAw.Valid := fun i i0 i1 => by
 rcases i3 i0 i1 with rfl | rfl | rfl <;> (unfold Lds.Val lAw; decide)
theorem lAw_two : lAw.Can 2 := by
 have hn : ∀ f : Int → Int, sm f lAw.n = f 0 + f 1 + f 2 := sm3
 refine ⟨fun i h => ind ((if i = 2 then 1 else 0) ≤ h ∧ h < (if i = 1 then 1 else 2)), fun i h _ _ => ind_rng _, fun i h i0 i1 hne => ?_, fun i i0 i1 => ?_, fun t _ _ => ?_⟩
 ·by_cases c : (if i = 2 then 1 else 0) ≤ h ∧ h < (if i = 1 then 1 else 2)
  ·show 0 ≤ h ∧ h < 2
   rcases i3 i0 i1 with rfl | rfl | rfl <;> (simp at c; omega)
  ·exact absurd (ind_f c) hne
 ·rcases i3 i0 i1 with rfl | rfl | rfl
  ·exact sm_span (by decide) (by decide)
  ·exact sm_span (by decide) (by decide)
  ·exact sm_span (by decide) (by decide)
 ·rw [hn]
  by_cases c1 : t = 0
  ·rw [c1]
   have h3 : ind ((if (2 : Int) = 2 then (1 : Int) else 0) ≤ 0 ∧ (0 : Int) < (if (2 : Int) = 1 then 1 else 2)) = 0 := ind_f (by decide)
   have h1 := (ind_rng ((if (0 : Int) = 2 then (1 : Int) else 0) ≤ 0 ∧ (0 : Int) < (if (0 : Int) = 1 then 1 else 2))).2
   have h2 := (ind_rng ((if (1 : Int) = 2 then (1 : Int) else 0) ≤ 0 ∧ (0 : Int) < (if (1 : Int) = 1 then 1 else 2))).2
   omega
  ·have h3 : ind ((if (1 : Int) = 2 then (1 : Int) else 0) ≤ t ∧ t < (if (1 : Int) = 1 then 1 else 2)) = 0 := ind_f (by simp; omega)
   have h1 := (ind_rng ((if (0 : Int) = 2 then (1 : Int) else 0) ≤ t ∧ t < (if (0 : Int) = 1 then 1 else 2))).2
   have h2 := (ind_rng ((if (2 : Int) = 2 then (1 : Int) else 0) ≤ t ∧ t < (if (2 : Int) = 1 then 1 else 2))).2
   omega
theorem lAw_one : ¬ lAw.Can 1 := by
 have hn : ∀ f : Int → Int, sm f lAw.n = f 0 + f 1 + f 2 := sm3
 refine Lds.Cr.no ⟨fun _ => 1, fun h => ind (0 ≤ h ∧ h < 2), fun _ _ _ => by decide, fun _ _ _ => ind_rng _, ?_⟩
 have ho : ∀ i : Int, lAw.outs 1000000000 (fun h => ind (0 ≤ h ∧ h < 2)) i = 0 := fun i => sm_zeroG fun t _ _ => by
  show ind (0 ≤ t ∧ t < 2) * (1 - ind (0 ≤ t ∧ t < 2)) = 0
  by_cases c : 0 ≤ t ∧ t < 2
  ·rw [ind_t c]; rfl
  ·rw [ind_f c]; rfl
 have hs : sm (fun h => ind (0 ≤ h ∧ h < 2)) 1000000000 = 2 := sm_span (by decide) (by decide)
 unfold Lds.need
 rw [hs, hn, ho, ho, ho]
 decide
end Go.Proofs.Ytbepolognfdkeaa
set_option maxRecDepth 100000
namespace Go.Proofs.Ytbepolognfdkeaa
def qT (T : List Trn) (j : Int) : Trn := T.getD j.toNat (0, 0, 0)
def OkT (l : Lds) (t : Trn) : Prop := (0 ≤ t.1 ∧ t.1 < l.n) ∧ t.2.1 < t.2.2 ∧ l.r t.1 ≤ t.2.1 ∧ t.2.2 ≤ l.d t.1
theorem qT_mem {T : List Trn} {j : Int} (j0 : 0 ≤ j) (j1 : j < T.length) : qT T j ∈ T := by
 unfold qT
 rw [List.getD_eq_getElem?_getD, List.getElem?_eq_getElem (by omega)]
 exact List.getElem_mem _
theorem qT_nat {T : List Trn} {j : Nat} (h : j < T.length) : qT T j = T[j] := by
 unfold qT
 rw [Int.toNat_natCast, List.getD_eq_getElem?_getD, List.getElem?_eq_getElem h]; rfl
theorem qT_ex {T : List Trn} {t : Trn} (h : t ∈ T) : ∃ j : Int, (0 ≤ j ∧ j < T.length) ∧ qT T j = t := by
 obtain ⟨q, hq, e⟩ := List.mem_iff_getElem.1 h
 exact ⟨q, by omega, by rw [qT_nat hq, e]⟩
theorem sL_sm0 (φ : Trn → Int) (T : List Trn) : sL φ T = sm (fun j => φ (qT T j)) T.length := by
 have h := sL_take φ T (fun j => φ (qT T j)) (fun j hj => by rw [qT_nat hj]) T.length (Nat.le_refl _)
 rw [List.take_length] at h
 exact h.symm
structure PlanA (l : Lds) (kilns : Int) (T : List Trn) (i : Int) : Prop where
 ok : OkT l (qT T i)
 kil : sm (fun k => ind ((qT T k).2.1 ≤ (qT T i).2.1 ∧ (qT T i).2.1 < (qT T k).2.2)) T.length ≤ kilns
 one : ∀ k : Int, 0 ≤ k → k < T.length → k ≠ i → (qT T k).2.1 ≤ (qT T i).2.1 ∧ (qT T i).2.1 < (qT T k).2.2 → (qT T k).1 ≠ (qT T i).1
noncomputable def sT (T : List Trn) (n : Int) (j : Int) : Int := sm (fun i => ind ((qT T i).1 = j) * ((qT T i).2.2 - (qT T i).2.1)) n
theorem sT_step (T : List Trn) (n : Nat) (j : Int) : sT T ((n + 1 : Nat) : Int) j = upd (sT T n) (qT T n).1 (sT T n (qT T n).1 + (qT T n).2.2 - (qT T n).2.1) j := by
 have e : ∀ j, sT T ((n + 1 : Nat) : Int) j = sT T n j + ind ((qT T n).1 = j) * ((qT T n).2.2 - (qT T n).2.1) := fun j => by
  unfold sT
  rw [show ((n + 1 : Nat) : Int) = (n : Int) + 1 by omega, sm_succ _ (by omega)]
 rw [e]
 by_cases c : j = (qT T n).1
 ·rw [c, upd_same, ind_t rfl]; omega
 ·rw [upd_ne _ _ c, ind_f fun h => c h.symm]; omega
structure PlanX (l : Lds) (kilns : Int) (T : List Trn) : Prop where
 a : ∀ i : Int, 0 ≤ i → i < T.length → PlanA l kilns T i
 b : ∀ j : Int, 0 ≤ j → j < l.n → sT T T.length j = l.len j
theorem planX_iff {l : Lds} {kilns : Int} {T : List Trn} : PlanX l kilns T ↔ PlanOk l kilns T := by
 constructor
 ·intro h
  refine ⟨fun t ht => ?_, fun t ht => ?_, List.pairwise_iff_getElem.2 fun i j hi hj hij e => ?_, fun j j0 j1 => ?_⟩
  ·obtain ⟨i, hi, rfl⟩ := qT_ex ht
   exact (h.a i hi.1 hi.2).ok
  ·obtain ⟨i, hi, rfl⟩ := qT_ex ht
   rw [sL_sm0]
   exact (h.a i hi.1 hi.2).kil
  ·rw [← qT_nat hi, ← qT_nat hj] at e ⊢
   exact ⟨fun hc => (h.a i (by omega) (by omega)).one j (by omega) (by omega) (by omega) hc e.symm, fun hc => (h.a j (by omega) (by omega)).one i (by omega) (by omega) (by omega) hc e⟩
  ·rw [sL_sm0]
   exact h.b j j0 j1
 ·intro h
  refine ⟨fun i i0 i1 => ⟨h.ok _ (qT_mem i0 i1), ?_, fun k k0 k1 hne hc e => ?_⟩, fun j j0 j1 => ?_⟩
  ·have := h.kil _ (qT_mem i0 i1)
   rw [sL_sm0] at this
   exact this
  ·have hp := List.pairwise_iff_getElem.1 h.one
   obtain ⟨a, rfl⟩ := Int.eq_ofNat_of_zero_le i0
   obtain ⟨b, rfl⟩ := Int.eq_ofNat_of_zero_le k0
   rw [qT_nat (by omega), qT_nat (by omega)] at hc e
   rcases Nat.lt_trichotomy a b with d | d | d
   ·exact (hp a b (by omega) (by omega) d e.symm).1 hc
   ·omega
   ·exact (hp b a (by omega) (by omega) d e).2 hc
  ·have := h.sum j j0 j1
   rw [sL_sm0] at this
   exact this
noncomputable instance (l : Lds) (k : Int) (T : List Trn) : Decidable (PlanOk l k T) := Classical.propDecidable _
def OrdX (T : List Trn) : Prop := ∀ i : Int, 1 ≤ i → i < T.length → ¬ ((qT T i).2.1 < (qT T (i - 1)).2.1 ∨ (qT T (i - 1)).2.1 = (qT T i).2.1 ∧ (qT T i).1 < (qT T (i - 1)).1)
def Ord7 (T : List Trn) : Prop := T.Pairwise fun a b => a.2.1 < b.2.1 ∨ (a.2.1 = b.2.1 ∧ a.1 ≤ b.1)
theorem Ord7.x {T : List Trn} (h : Ord7 T) : OrdX T := fun i i0 i1 => by
 have hp := List.pairwise_iff_getElem.1 h (i.toNat - 1) i.toNat (by omega) (by omega) (by omega)
 rw [← qT_nat, ← qT_nat, show ((i.toNat - 1 : Nat) : Int) = i - 1 by omega, show ((i.toNat : Nat) : Int) = i by omega] at hp
 omega
noncomputable instance (T : List Trn) : Decidable (OrdX T) := Classical.propDecidable _
end Go.Proofs.Ytbepolognfdkeaa
