import Derived.Test.YtfbbagnpdfafjaaHaY
set_option maxRecDepth 100000
namespace Go.Proofs.Ytfbbagnpdfafjaa
open Go.RowKit Go.Proofs
def HM.oth (X : HM) (i j : Int) : Prop := j ≠ i - 1 ∧ (X.ac j).out = false
instance (X : HM) (i j : Int) : Decidable (X.oth i j) := by unfold HM.oth; exact inferInstance
structure Fell (X D : HM) (i lo lc lf lg lh : Int) : Prop where
 nn : 0 ≤ lo ∧ 0 ≤ lc ∧ 0 ≤ lf ∧ 0 ≤ lg ∧ 0 ≤ lh
 sum : lo + lc + lf + lg + lh = max 0 (-(X.acct i).cash)
 own : (D.acct i).out = true ∧ (D.acct i).cash = max 0 (X.acct i).cash ∧ (D.acct i).fund = (X.acct i).fund - lo
 cap : D.cap = X.cap - lc
 oth : ∀ j : Int, 0 ≤ j → j < X.mem → j ≠ i - 1 → 0 ≤ (D.ac j).fund ∧ (D.ac j).fund ≤ (X.ac j).fund ∧ (D.ac j).cash ≤ (X.ac j).cash ∧ min 0 (X.ac j).cash ≤ (D.ac j).cash ∧ ((X.ac j).out = true → (D.ac j).fund = (X.ac j).fund ∧ (D.ac j).cash = (X.ac j).cash)
 pos : ∀ j : Int, 0 ≤ j → j < X.mem → j ≠ i - 1 → ∀ m : Int, 0 ≤ m → m < 12 → (0 ≤ (X.ac j).pos m → 0 ≤ (D.ac j).pos m) ∧ ((X.ac j).pos m ≤ 0 → (D.ac j).pos m ≤ 0)
 w1 : 0 < lc + lf + lg + lh → (D.acct i).fund ≤ 0
 w2 : 0 < lf + lg + lh → D.cap ≤ 0
 w3 : 0 < lg + lh → sm (fun j => if X.oth i j then (D.ac j).fund else 0) X.mem ≤ 0
 w4 : 0 < lh → sm (fun j => if X.oth i j then max 0 (D.ac j).cash else 0) X.mem ≤ 0
theorem othP_oth (X : HM) (i j : Int) : X.othP i j = true ↔ X.oth i j := by
 unfold HM.othP HM.oth
 rw [Bool.and_eq_true, decide_eq_true_iff]
 simp
theorem d0_pos {X : HM} (hZ : HZ X) {i j m : Int} (hi : 1 ≤ i ∧ i ≤ X.mem) (m0 : 0 ≤ m) (m1 : m < 12) (j0 : 0 ≤ j) (j1 : j < X.mem) (hj : j ≠ i - 1) : (0 ≤ (X.ac j).pos m → 0 ≤ (X.tkG i 12 j).pos m) ∧ ((X.ac j).pos m ≤ 0 → (X.tkG i 12 j).pos m ≤ 0) := by
 rw [show (X.tkG i 12 j).pos m = X.tkP i j m from if_pos m1]
 obtain ⟨h1, h2, _⟩ := tkP_sign hZ hi m0 m1 j0 j1 hj
 exact ⟨fun h => (h1 h).1, fun h => (h2 h).2⟩
theorem d3_oth (X : HM) (i j : Int) (hj : j ≠ i - 1) : ((X.d3 i).ac j).fund = (X.ac j).fund ∧ ((X.d3 i).ac j).out = (X.ac j).out ∧ ((X.d3 i).ac j).cash = (X.ac j).cash := by
 rw [d3_ac, d2_ac, if_neg hj]
 exact ⟨rfl, rfl, rfl⟩
theorem d4_oth (X : HM) (i j : Int) (hj : j ≠ i - 1) : ((X.d4 i).ac j).out = (X.ac j).out ∧ ((X.d4 i).ac j).cash = (X.ac j).cash := by
 obtain ⟨h1, h2, h3⟩ := d3_oth X i j hj
 obtain ⟨f1, f2, f3⟩ := spA_fund (X.d3 i) i (X.l2 i) j
 rw [d4_ac, f1, f2]
 exact ⟨h2, h3⟩
theorem spW_oth {X Y : HM} {i : Int} (get : HA → Int) (j : Int) (h : j ≠ i - 1 → (Y.ac j).out = (X.ac j).out ∧ get (Y.ac j) = get (X.ac j)) : Y.spW get i j = if X.oth i j then max 0 (get (X.ac j)) else 0 := by
 unfold HM.spW
 by_cases e : j = i - 1
 ·rw [if_neg (fun c => ((othP_oth Y i j).1 c).1 e), if_neg (fun c => c.1 e)]
 ·obtain ⟨h1, h2⟩ := h e
  by_cases c : X.oth i j
  ·rw [if_pos ((othP_oth Y i j).2 ⟨e, by rw [h1]; exact c.2⟩), if_pos c, h2]
  ·rw [if_neg (fun h => c ⟨e, by rw [← h1]; exact ((othP_oth Y i j).1 h).2⟩), if_neg c]
theorem d7_fell {j : Nat} {X : HM} (h : HB j X) {i : Int} (hi : 1 ≤ i ∧ i ≤ X.mem) (hl : 0 < X.l0 i) : Fell X (X.d7 i) i (X.t0 i) (X.t1 i) (X.t2 i) (X.t3 i) (X.l4 i) := by
 have hfu := h.fund (i - 1) (by omega) (by omega)
 have hT := took hl (X := X) hfu.1 h.cap.1
 have hm := d_mem X i
 have t0 := hT.t0
 have t1 := hT.t1
 have t2 := hT.t2
 have t3 := hT.t3
 have l4 := hT.l4
 have all := hT.all
 have e1 : X.l1 i = X.l0 i - X.t0 i := rfl
 have e2 : X.l2 i = X.l1 i - X.t1 i := rfl
 have e3 : X.l3 i = X.l2 i - X.t2 i := rfl
 have e4 : X.l4 i = X.l3 i - X.t3 i := rfl
 have hl0 : X.l0 i = -(X.acct i).cash := rfl
 have ha : (X.acct i).fund = (X.ac (i - 1)).fund := rfl
 have hcap : (X.d7 i).cap = X.cap - X.t1 i := (d7_cap X i).1
 obtain ⟨o1, o2, o3, o4⟩ := d7_own (X := X) (i := i)
 have hW2 : ∀ l : Int, (X.d3 i).spW HA.fund i l = if X.oth i l then max 0 (X.ac l).fund else 0 := fun l => spW_oth HA.fund l fun hn => ⟨(d3_oth X i l hn).2.1, (d3_oth X i l hn).1⟩
 have hW3 : ∀ l : Int, (X.d4 i).spW HA.cash i l = if X.oth i l then max 0 (X.ac l).cash else 0 := fun l => spW_oth HA.cash l fun hn => d4_oth X i l hn
 obtain ⟨_, _, _, s2, u2⟩ := sp_share (X.d3 i) HA.fund i (X.l2 i) (by omega)
 obtain ⟨_, _, _, s3, u3⟩ := sp_share (X.d4 i) HA.cash i (X.l3 i) (by omega)
 rw [hm.2.2.1] at s2 u2
 rw [hm.2.2.2.1] at s3 u3
 change ∀ j : Int, 0 ≤ j → j < X.mem → 0 ≤ shF (X.t2 i) X.mem ((X.d3 i).spW HA.fund i) j ∧ shF (X.t2 i) X.mem ((X.d3 i).spW HA.fund i) j ≤ (X.d3 i).spW HA.fund i j at s2
 change sm (shF (X.t2 i) X.mem ((X.d3 i).spW HA.fund i)) X.mem = X.t2 i at u2
 change ∀ j : Int, 0 ≤ j → j < X.mem → 0 ≤ shF (X.t3 i) X.mem ((X.d4 i).spW HA.cash i) j ∧ shF (X.t3 i) X.mem ((X.d4 i).spW HA.cash i) j ≤ (X.d4 i).spW HA.cash i j at s3
 change sm (shF (X.t3 i) X.mem ((X.d4 i).spW HA.cash i)) X.mem = X.t3 i at u3
 refine ⟨⟨t0.1, t1.1, t2.1, t3.1, l4⟩, by omega, ⟨o3, by show ((X.d7 i).ac (i - 1)).cash = _; omega, o2⟩, hcap, fun l l0 l1 hn => ?_, fun l l0 l1 hn m m0 m1 => ?_, fun hp => ?_, fun hp => ?_, fun hp => ?_, fun hp => ?_⟩
 ·obtain ⟨q1, _, q3, q4, q5, q6, q7, q8⟩ := d7_oth hT l0 l1 hn
  have hf := (h.fund l l0 l1).1
  refine ⟨by omega, q5, q3, q4, fun ho => ?_⟩
  have a2 := s2 l l0 l1
  have a3 := s3 l l0 l1
  rw [hW2 l, if_neg (fun c => by rw [c.2] at ho; cases ho)] at a2
  rw [hW3 l, if_neg (fun c => by rw [c.2] at ho; cases ho)] at a3
  omega
 ·rw [(d7_oth hT l0 l1 hn).2.1]
  exact d0_pos h.Z hi m0 m1 l0 l1 hn
 ·show ((X.d7 i).ac (i - 1)).fund ≤ 0
  have := t0.2.2.2 (by omega)
  omega
 ·have := t1.2.2.2 (by omega)
  omega
 ·have h2 := t2.2.2 (by omega)
  have e : sm (fun l => if X.oth i l then ((X.d7 i).ac l).fund else 0) X.mem = sm (fun l => (X.d3 i).spW HA.fund i l - shF (X.t2 i) X.mem ((X.d3 i).spW HA.fund i) l) X.mem := sm_congr fun l l0 l1 => by
   have a2 := s2 l l0 l1
   have hf := (h.fund l l0 l1).1
   by_cases c : X.oth i l
   ·rw [if_pos c, (d7_oth hT l0 l1 c.1).2.2.2.2.2.2.1, hW2 l, if_pos c]
    omega
   ·rw [hW2 l, if_neg c] at a2
    rw [if_neg c, hW2 l, if_neg c]
    omega
  rw [e, sm_sub, u2]
  omega
 ·have h3 := t3.2.2 (by omega)
  have e : sm (fun l => if X.oth i l then max 0 ((X.d7 i).ac l).cash else 0) X.mem = sm (fun l => (X.d4 i).spW HA.cash i l - shF (X.t3 i) X.mem ((X.d4 i).spW HA.cash i) l) X.mem := sm_congr fun l l0 l1 => by
   have a3 := s3 l l0 l1
   by_cases c : X.oth i l
   ·rw [hW3 l, if_pos c] at a3
    rw [if_pos c, (d7_oth hT l0 l1 c.1).2.2.2.2.2.2.2, hW3 l, if_pos c]
    omega
   ·rw [hW3 l, if_neg c] at a3
    rw [if_neg c, hW3 l, if_neg c]
    omega
  rw [e, sm_sub, u3]
  omega
theorem dOut_fell {j : Nat} {X : HM} (h : HB j X) {i : Int} (hi : 1 ≤ i ∧ i ≤ X.mem) (hl : ¬ 0 < X.l0 i) : Fell X ((X.d0 i).setA i { (X.d0 i).acct i with out := true }) i 0 0 0 0 0 := by
 have hl0 : X.l0 i = -(X.acct i).cash := rfl
 have e : ∀ l : Int, l ≠ i - 1 → ((X.d0 i).setA i { (X.d0 i).acct i with out := true }).ac l = X.tkG i 12 l := fun l hn => upd_ne _ _ hn
 have ei : ((X.d0 i).setA i { (X.d0 i).acct i with out := true }).acct i = { X.tkG i 12 (i - 1) with out := true } := setA_acct _ _ _
 refine ⟨by decide, by omega, ?_, by show X.cap = X.cap - 0; omega, fun l l0 l1 hn => ?_, fun l l0 l1 hn m m0 m1 => ?_, fun hp => by omega, fun hp => by omega, fun hp => by omega, fun hp => by omega⟩
 ·rw [ei]
  refine ⟨rfl, ?_, ?_⟩
  ·show (X.acct i).cash = _
   omega
  ·show (X.acct i).fund = (X.acct i).fund - 0
   omega
 ·rw [e l hn]
  have hf := (h.fund l l0 l1).1
  show 0 ≤ (X.ac l).fund ∧ (X.ac l).fund ≤ (X.ac l).fund ∧ (X.ac l).cash ≤ (X.ac l).cash ∧ min 0 (X.ac l).cash ≤ (X.ac l).cash ∧ ((X.ac l).out = true → (X.ac l).fund = (X.ac l).fund ∧ (X.ac l).cash = (X.ac l).cash)
  exact ⟨hf, Int.le_refl _, Int.le_refl _, by omega, fun _ => ⟨rfl, rfl⟩⟩
 ·rw [e l hn]
  exact d0_pos h.Z hi m0 m1 l0 l1 hn
end Go.Proofs.Ytfbbagnpdfafjaa
