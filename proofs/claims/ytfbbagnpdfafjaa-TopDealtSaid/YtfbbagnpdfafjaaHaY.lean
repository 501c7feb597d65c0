import Derived.Test.YtfbbagnpdfafjaaHaV
set_option maxRecDepth 100000
namespace Go.Proofs.Ytfbbagnpdfafjaa
open Go.RowKit Go.Proofs
theorem d7_eq (X : HM) (i : Int) : X.d7 i = { X with ac := (X.d7 i).ac, cap := (X.d7 i).cap, hole := (X.d7 i).hole } := by simp only [HM.d7, HM.d6, HM.d5, HM.d4, HM.d3, HM.d2, HM.d1, HM.d0, HM.setA]
theorem d_mem (X : HM) (i : Int) : (X.d1 i).mem = X.mem ∧ (X.d2 i).mem = X.mem ∧ (X.d3 i).mem = X.mem ∧ (X.d4 i).mem = X.mem ∧ (X.d5 i).mem = X.mem ∧ (X.d6 i).mem = X.mem := by simp only [HM.d6, HM.d5, HM.d4, HM.d3, HM.d2, HM.d1, HM.d0, HM.setA, and_self]
theorem d7_cap (X : HM) (i : Int) : (X.d7 i).cap = X.cap - X.t1 i ∧ (X.d2 i).cap = X.cap := by simp only [HM.d7, HM.d6, HM.d5, HM.d4, HM.d3, HM.d2, HM.d1, HM.d0, HM.setA, and_self]
theorem d7_hole (X : HM) (i : Int) : (X.d7 i).hole = X.hole + X.l4 i := by simp only [HM.d7, HM.d6, HM.d5, HM.d4, HM.d3, HM.d2, HM.d1, HM.d0, HM.setA]
theorem d1_ac (X : HM) (i j : Int) : (X.d1 i).ac j = if j = i - 1 then setCash (X.tkG i 12 j) 0 else X.tkG i 12 j := by
 unfold HM.d1 HM.setA
 show upd (X.tkG i 12) (i - 1) (setCash (X.tkG i 12 (i - 1)) 0) j = _
 unfold upd
 split
 ·rename_i e; rw [e]
 ·rfl
theorem d2_ac (X : HM) (i j : Int) : (X.d2 i).ac j = if j = i - 1 then { X.tkG i 12 j with cash := 0, fund := (X.ac j).fund - X.t0 i } else X.tkG i 12 j := by
 unfold HM.d2 HM.setA
 show upd (X.d1 i).ac (i - 1) (setFund ((X.d1 i).ac (i - 1)) (((X.d1 i).ac (i - 1)).fund - X.t0 i)) j = _
 unfold upd
 split
 ·rename_i e
  rw [e, d1_ac, if_pos rfl]
  rfl
 ·rename_i e
  rw [d1_ac, if_neg e]
theorem d3_ac (X : HM) (i j : Int) : (X.d3 i).ac j = (X.d2 i).ac j := by unfold HM.d3; rfl
theorem d4_ac (X : HM) (i j : Int) : (X.d4 i).ac j = (X.d3 i).spA HA.fund setFund i (X.l2 i) j := by unfold HM.d4; rfl
theorem d5_ac (X : HM) (i j : Int) : (X.d5 i).ac j = (X.d4 i).spA HA.cash setCash i (X.l3 i) j := by unfold HM.d5; rfl
theorem d6_ac (X : HM) (i j : Int) : (X.d6 i).ac j = (X.d5 i).ac j := by unfold HM.d6; rfl
theorem d7_ac (X : HM) (i j : Int) : (X.d7 i).ac j = if j = i - 1 then { (X.d5 i).ac j with out := true } else (X.d5 i).ac j := by
 unfold HM.d7 HM.setA
 show upd (X.d6 i).ac (i - 1) { (X.d5 i).ac (i - 1) with out := true } j = _
 unfold upd
 split
 ·rename_i e; rw [e]
 ·exact d6_ac X i j
theorem spA_fund (X : HM) (i x j : Int) : (X.spA HA.fund setFund i x j).cash = (X.ac j).cash ∧ (X.spA HA.fund setFund i x j).out = (X.ac j).out ∧ (X.spA HA.fund setFund i x j).pos = (X.ac j).pos := by
 rw [spA_at]; split <;> exact ⟨rfl, rfl, rfl⟩
theorem spA_cash (X : HM) (i x j : Int) : (X.spA HA.cash setCash i x j).fund = (X.ac j).fund ∧ (X.spA HA.cash setCash i x j).out = (X.ac j).out ∧ (X.spA HA.cash setCash i x j).pos = (X.ac j).pos := by
 rw [spA_at]; split <;> exact ⟨rfl, rfl, rfl⟩
theorem d2_rest (X : HM) (i j : Int) : ((X.d2 i).ac j).out = (X.ac j).out ∧ ((X.d2 i).ac j).pos = (X.tkG i 12 j).pos := by
 rw [d2_ac]; split <;> exact ⟨rfl, rfl⟩
theorem oth_own (X : HM) (i : Int) : X.othP i (i - 1) ≠ true := by unfold HM.othP; simp
structure Took (X : HM) (i : Int) : Prop where
 t0 : 0 ≤ X.t0 i ∧ X.t0 i ≤ X.l0 i ∧ X.t0 i ≤ (X.acct i).fund ∧ (X.t0 i < X.l0 i → X.t0 i = (X.acct i).fund)
 t1 : 0 ≤ X.t1 i ∧ X.t1 i ≤ X.l1 i ∧ X.t1 i ≤ X.cap ∧ (X.t1 i < X.l1 i → X.t1 i = X.cap)
 t2 : 0 ≤ X.t2 i ∧ X.t2 i ≤ X.l2 i ∧ (X.t2 i < X.l2 i → X.t2 i = sm ((X.d3 i).spW HA.fund i) X.mem)
 t3 : 0 ≤ X.t3 i ∧ X.t3 i ≤ X.l3 i ∧ (X.t3 i < X.l3 i → X.t3 i = sm ((X.d4 i).spW HA.cash i) X.mem)
 l4 : 0 ≤ X.l4 i
 all : X.t0 i + X.t1 i + X.t2 i + X.t3 i + X.l4 i = X.l0 i
theorem took {X : HM} {i : Int} (hl : 0 < X.l0 i) (hf : 0 ≤ (X.acct i).fund) (hc : 0 ≤ X.cap) : Took X i := by
 have f1 : ((X.d1 i).acct i).fund = (X.acct i).fund := by unfold HM.d1; rw [setA_acct]; rfl
 have h0 : 0 ≤ X.t0 i ∧ X.t0 i ≤ X.l0 i ∧ X.t0 i ≤ (X.acct i).fund ∧ (X.t0 i < X.l0 i → X.t0 i = (X.acct i).fund) := by unfold HM.t0; rw [f1]; omega
 have e1 : X.l1 i = X.l0 i - X.t0 i := rfl
 have h1 : 0 ≤ X.t1 i ∧ X.t1 i ≤ X.l1 i ∧ X.t1 i ≤ X.cap ∧ (X.t1 i < X.l1 i → X.t1 i = X.cap) := by unfold HM.t1; rw [(d7_cap X i).2]; omega
 have e2 : X.l2 i = X.l1 i - X.t1 i := rfl
 have hm := d_mem X i
 have h2 : 0 ≤ X.t2 i ∧ X.t2 i ≤ X.l2 i ∧ (X.t2 i < X.l2 i → X.t2 i = sm ((X.d3 i).spW HA.fund i) X.mem) := by
  have hs : 0 ≤ sm ((X.d3 i).spW HA.fund i) X.mem := sm_nonneg fun j _ _ => spW_nonneg _ _ _ _
  unfold HM.t2 HM.spT
  rw [hm.2.2.1]
  omega
 have e3 : X.l3 i = X.l2 i - X.t2 i := rfl
 have h3 : 0 ≤ X.t3 i ∧ X.t3 i ≤ X.l3 i ∧ (X.t3 i < X.l3 i → X.t3 i = sm ((X.d4 i).spW HA.cash i) X.mem) := by
  have hs : 0 ≤ sm ((X.d4 i).spW HA.cash i) X.mem := sm_nonneg fun j _ _ => spW_nonneg _ _ _ _
  unfold HM.t3 HM.spT
  rw [hm.2.2.2.1]
  omega
 have e4 : X.l4 i = X.l3 i - X.t3 i := rfl
 exact ⟨h0, h1, h2, h3, by omega, by omega⟩
theorem d7_own {X : HM} {i : Int} : ((X.d7 i).ac (i - 1)).cash = 0 ∧ ((X.d7 i).ac (i - 1)).fund = (X.acct i).fund - X.t0 i ∧ ((X.d7 i).ac (i - 1)).out = true ∧ ((X.d7 i).ac (i - 1)).pos = (X.tkG i 12 (i - 1)).pos := by
 rw [d7_ac, if_pos rfl, d5_ac, sp_own _ _ _ _ _ _ (oth_own _ _), d4_ac, sp_own _ _ _ _ _ _ (oth_own _ _), d3_ac, d2_ac, if_pos rfl]
 exact ⟨rfl, rfl, rfl, rfl⟩
theorem d7_oth {X : HM} {i j : Int} (hT : Took X i) (j0 : 0 ≤ j) (j1 : j < X.mem) (hj : j ≠ i - 1) :
  ((X.d7 i).ac j).out = (X.ac j).out ∧ ((X.d7 i).ac j).pos = (X.tkG i 12 j).pos ∧
  ((X.d7 i).ac j).cash ≤ (X.ac j).cash ∧ min 0 (X.ac j).cash ≤ ((X.d7 i).ac j).cash ∧ ((X.d7 i).ac j).fund ≤ (X.ac j).fund ∧ min 0 (X.ac j).fund ≤ ((X.d7 i).ac j).fund ∧
  ((X.d7 i).ac j).fund = (X.ac j).fund - shF (X.t2 i) X.mem ((X.d3 i).spW HA.fund i) j ∧ ((X.d7 i).ac j).cash = (X.ac j).cash - shF (X.t3 i) X.mem ((X.d4 i).spW HA.cash i) j := by
 have hm := d_mem X i
 have hl2 : 0 ≤ X.l2 i := by have := hT.t2; omega
 have hl3 : 0 ≤ X.l3 i := by have := hT.t3; omega
 have g1 := sp_get (X.d3 i) HA.fund setFund (fun _ _ => rfl) i (X.l2 i) hl2 j0 (by rw [hm.2.2.1]; exact j1)
 have g2 := sp_get (X.d4 i) HA.cash setCash (fun _ _ => rfl) i (X.l3 i) hl3 j0 (by rw [hm.2.2.2.1]; exact j1)
 obtain ⟨f1, f2, f3⟩ := spA_fund (X.d3 i) i (X.l2 i) j
 obtain ⟨c1, c2, c3⟩ := spA_cash (X.d4 i) i (X.l3 i) j
 obtain ⟨r1, r2⟩ := d2_rest X i j
 rw [hm.2.2.1, d3_ac] at g1
 rw [hm.2.2.2.1, d4_ac] at g2
 rw [d4_ac] at c1 c2 c3
 rw [d3_ac] at f1 f2 f3
 have e2 : (X.d2 i).ac j = X.tkG i 12 j := by rw [d2_ac, if_neg hj]
 have ef : ((X.d2 i).ac j).fund = (X.ac j).fund := by rw [e2]; rfl
 have ec : ((X.d2 i).ac j).cash = (X.ac j).cash := by rw [e2]; rfl
 rw [d7_ac, if_neg hj, d5_ac]
 rw [f1, ec] at g2
 rw [ef] at g1
 refine ⟨by rw [c2, f2, r1], by rw [c3, f3, r2], g2.2.1, g2.2.2, by rw [c1]; exact g1.2.1, by rw [c1]; exact g1.2.2, by rw [c1]; exact g1.1, g2.1⟩
theorem HB.d7 {j : Nat} {X : HM} (h : HB j X) (hj : j ≤ 100) {i : Int} (hi : 1 ≤ i ∧ i ≤ X.mem) (hl : 0 < X.l0 i) : HB (j + 1) (X.d7 i) := by
 have hb0 := h.d0 hi
 have hfu := h.fund (i - 1) (by omega) (by omega)
 have hT := took hl (X := X) hfu.1 h.cap.1
 have hc := h.cash (i - 1) (by omega) (by omega)
 have t0 := hT.t0
 have t1 := hT.t1
 have l4 := hT.l4
 have all := hT.all
 have t2 := hT.t2
 have t3 := hT.t3
 have hl0 : X.l0 i = -(X.ac (i - 1)).cash := rfl
 have hcap := h.cap
 have hhole := h.hole
 have hacct : (X.acct i).fund = (X.ac (i - 1)).fund := rfl
 have hposi : ∀ l : Int, 0 ≤ l → l < X.mem → ((X.d7 i).ac l).pos = ((X.d0 i).ac l).pos := fun l l0 l1 => by
  by_cases e : l = i - 1
  ·rw [e]; exact d7_own.2.2.2
  ·exact (d7_oth hT l0 l1 e).2.1
 have hz1 : ∀ m : Int, 0 ≤ m → m < 12 → sm (fun j => ((X.d7 i).ac j).pos m) X.mem = 0 := fun m m0 m1 => by
  have e : sm (fun j => ((X.d7 i).ac j).pos m) X.mem = sm (fun j => ((X.d0 i).ac j).pos m) X.mem := sm_congr fun l l0 l1 => by rw [hposi l l0 l1]
  rw [e]
  exact hb0.Z.zero m m0 m1
 have hz2 : ∀ l : Int, 0 ≤ l → l < X.mem → ((X.d7 i).ac l).out = true → ∀ m : Int, 0 ≤ m → m < 12 → ((X.d7 i).ac l).pos m = 0 := fun l l0 l1 ho m m0 m1 => by
  rw [hposi l l0 l1]
  by_cases e : l = i - 1
  ·show (X.tkG i 12 l).pos m = 0
   rw [show (X.tkG i 12 l).pos m = X.tkP i l m from if_pos m1, e]
   exact tkP_own
  ·rw [(d7_oth hT l0 l1 e).1] at ho
   exact hb0.Z.out l l0 l1 ho m m0 m1
 have hz3 : ∀ l : Int, 0 ≤ l → l < X.mem → ((X.d7 i).ac l).out = true → 0 ≤ ((X.d7 i).ac l).cash := fun l l0 l1 ho => by
  by_cases e : l = i - 1
  ·rw [e, d7_own.1]
   exact Int.le_refl _
  ·obtain ⟨e0, _, _, e2, _⟩ := d7_oth hT l0 l1 e
   have := h.Z.oc l l0 l1 (by rw [← e0]; exact ho)
   omega
 rw [d7_eq]
 refine ⟨h.mem, h.mo, h.k, h.pr, h.prz, h.mv, h.rate, ?_, ?_, fun l l0 l1 => ?_, fun l l0 l1 => ?_, fun l l0 l1 => ?_, fun l l0 l1 => ?_, h.next.n, ⟨hz1, hz2, hz3⟩⟩
 ·show 0 ≤ (X.d7 i).cap ∧ (X.d7 i).cap ≤ _
  rw [(d7_cap X i).1]
  omega
 ·show 0 ≤ (X.d7 i).hole ∧ (X.d7 i).hole ≤ _
  rw [d7_hole]
  omega
 ·show Bd ((X.d7 i).ac l).pos _
  rw [hposi l l0 l1]
  exact (hb0.pos l l0 l1).mono (by omega)
 ·show ∀ m : Int, X.mo ≤ m → ((X.d7 i).ac l).pos m = 0
  rw [hposi l l0 l1]
  exact hb0.posz l l0 l1
 ·show ((X.d7 i).ac l).cash.natAbs ≤ _
  have h1 := h.cash l l0 l1
  by_cases e : l = i - 1
  ·rw [e, d7_own.1]
   exact Nat.zero_le _
  ·obtain ⟨_, _, e1, e2, _⟩ := d7_oth hT l0 l1 e
   omega
 ·show 0 ≤ ((X.d7 i).ac l).fund ∧ ((X.d7 i).ac l).fund ≤ _
  have h1 := h.fund l l0 l1
  by_cases e : l = i - 1
  ·rw [e, d7_own.2.1]
   omega
  ·obtain ⟨_, _, _, _, e1, e2, _⟩ := d7_oth hT l0 l1 e
   omega
theorem HB.dOut {j : Nat} {X : HM} (h : HB j X) {i : Int} (hi : 1 ≤ i ∧ i ≤ X.mem) (hl0 : ¬ 0 < X.l0 i) : HB (j + 1) ((X.d0 i).setA i { (X.d0 i).acct i with out := true }) := by
 have hb0 := h.d0 hi
 refine hb0.acs (upd (X.d0 i).ac (i - 1) { (X.d0 i).ac (i - 1) with out := true }) (fun l l0 l1 => ?_) ⟨fun m m0 m1 => ?_, fun l l0 l1 hl m m0 m1 => ?_, fun l l0 l1 hl => ?_⟩
 ·have h1 := hb0.cash l l0 l1
  have h2 := hb0.fund l l0 l1
  have h3 := hb0.pos l l0 l1
  have h4 := hb0.posz l l0 l1
  unfold upd
  split
  ·rename_i e
   rw [e] at h1 h2 h3 h4
   exact ⟨h3.mono (by omega), h4, by show ((X.d0 i).ac (i - 1)).cash.natAbs ≤ _; omega, by show 0 ≤ ((X.d0 i).ac (i - 1)).fund ∧ ((X.d0 i).ac (i - 1)).fund ≤ _; omega⟩
  ·exact ⟨h3.mono (by omega), h4, by omega, by omega⟩
 ·show sm (fun j => (upd (X.d0 i).ac (i - 1) { (X.d0 i).ac (i - 1) with out := true } j).pos m) X.mem = 0
  rw [pos_at, sm_upd _ _ _ (by omega) (by omega)]
  have := hb0.Z.zero m m0 m1
  change sm (fun j => ((X.d0 i).ac j).pos m) X.mem = 0 at this
  rw [this]
  dsimp only
  omega
 ·change (upd (X.d0 i).ac (i - 1) { (X.d0 i).ac (i - 1) with out := true } l).out = true at hl
  show (upd (X.d0 i).ac (i - 1) { (X.d0 i).ac (i - 1) with out := true } l).pos m = 0
  by_cases e : l = i - 1
  ·rw [e, upd_same]
   show (X.tkG i 12 (i - 1)).pos m = 0
   rw [show (X.tkG i 12 (i - 1)).pos m = X.tkP i (i - 1) m from if_pos m1]
   exact tkP_own
  ·rw [upd_ne _ _ e] at hl ⊢
   exact hb0.Z.out l l0 l1 hl m m0 m1
 ·change (upd (X.d0 i).ac (i - 1) { (X.d0 i).ac (i - 1) with out := true } l).out = true at hl
  show 0 ≤ (upd (X.d0 i).ac (i - 1) { (X.d0 i).ac (i - 1) with out := true } l).cash
  by_cases e : l = i - 1
  ·rw [e, upd_same]
   have hl1 : ¬ 0 < -(X.ac (i - 1)).cash := hl0
   show 0 ≤ (X.ac (i - 1)).cash
   omega
  ·rw [upd_ne _ _ e] at hl ⊢
   exact hb0.Z.oc l l0 l1 hl
theorem HB.dflt {j : Nat} {X : HM} (h : HB j X) (hj : j ≤ 100) (i : Int) : HB (j + 1) (X.dflt i) := by
 unfold HM.dflt
 split
 ·rename_i ha
  obtain ⟨hi, _⟩ := act_zero ha
  split
  ·exact h.d7 hj hi ‹_›
  ·exact h.dOut hi ‹_›
 ·exact h.next
theorem HB.new {mem mon : Int} {mn : Nat} {P : Int → Int} {F : Int → Int → Int} {rate cap : Int} (hm : 2 ≤ mem ∧ mem < 20) (hn : 1 ≤ mon ∧ mon ≤ 12) (hk : mn ≤ 64) (hP : ∀ m : Int, 0 ≤ m → m < mon → 1 ≤ P m ∧ P m ≤ 1000) (hF : ∀ i : Int, 0 ≤ i → i < mn → ∀ m : Int, 0 ≤ m → m < mon → (F i m).natAbs ≤ 1000) (hr : 0 ≤ rate ∧ rate ≤ 1000) (hc : 0 ≤ cap ∧ cap ≤ 1000000000000) : HB 0 (HM.new mem mon mn P F rate cap) := by
 refine ⟨by show 2 ≤ mem.toNat ∧ mem.toNat < 20; omega, hn, hk, fun m m0 m1 => ?_, fun m hm' => if_neg (by show ¬ m < mon; have : mon ≤ m := hm'; omega), fun i i0 i1 m m0 m1 => ?_, hr, hc, by show (0 : Int) ≤ 0 ∧ (0 : Int) ≤ _; omega, fun i i0 i1 m m0 m1 => Nat.zero_le _, fun i i0 i1 m hm' => rfl, fun i i0 i1 => Nat.zero_le _, fun i i0 i1 => ⟨Int.le_refl _, by show (0 : Int) ≤ _; omega⟩, Nat.le_refl _, fun m m0 m1 => ?_, fun j j0 j1 hj => Bool.noConfusion hj, fun j j0 j1 hj => Bool.noConfusion hj⟩
 ·have h1 := hP m m0 m1
  show 1 ≤ cutM mon P m ∧ cutM mon P m ≤ 1000
  unfold cutM
  rw [if_pos (show m < mon from m1)]
  exact h1
 ·show (cutM mon (F i) m).natAbs ≤ 1000
  unfold cutM
  split
  ·exact hF i i0 i1 m m0 ‹_›
  ·exact Nat.zero_le _
 ·show sm (fun _ => 0) ((mem.toNat : Nat) : Int) = 0
  rw [sm_const 0 (by omega), Int.mul_zero]
end Go.Proofs.Ytfbbagnpdfafjaa
set_option maxRecDepth 100000
namespace Go.Proofs.Ytfbbagnpdfafjaa
open Go.RowKit Go.Proofs
def sml (n most : Int) : Int := n % 18446744073709551616 % (most + 1)
theorem sml_rng (n : Int) {most : Int} (h : 0 ≤ most) : 0 ≤ sml n most ∧ sml n most ≤ most := by
 unfold sml
 have h1 := Int.emod_nonneg (n % 18446744073709551616) (show most + 1 ≠ 0 by omega)
 have h2 := Int.emod_lt_of_pos (n % 18446744073709551616) (show 0 < most + 1 by omega)
 omega
end Go.Proofs.Ytfbbagnpdfafjaa
