import Derived.Test.YtfbbagnpdfafjaaHaU
set_option maxRecDepth 100000
namespace Go.Proofs.Ytfbbagnpdfafjaa
open Go.RowKit Go.Proofs
theorem tk_share {X : HM} (hZ : HZ X) {i m : Int} (hi : 1 ≤ i ∧ i ≤ X.mem) (m0 : 0 ≤ m) (m1 : m < 12) :
  Shr (sgn ((X.acct i).pos m) * (X.acct i).pos m) X.mem (X.wt i m (sgn ((X.acct i).pos m))) (shF (sgn ((X.acct i).pos m) * (X.acct i).pos m) X.mem (X.wt i m (sgn ((X.acct i).pos m)))) ∧
  (∀ j : Int, 0 ≤ j → j < X.mem → 0 ≤ shF (sgn ((X.acct i).pos m) * (X.acct i).pos m) X.mem (X.wt i m (sgn ((X.acct i).pos m))) j ∧ shF (sgn ((X.acct i).pos m) * (X.acct i).pos m) X.mem (X.wt i m (sgn ((X.acct i).pos m))) j ≤ X.wt i m (sgn ((X.acct i).pos m)) j) ∧
  sm (shF (sgn ((X.acct i).pos m) * (X.acct i).pos m) X.mem (X.wt i m (sgn ((X.acct i).pos m)))) X.mem = sgn ((X.acct i).pos m) * (X.acct i).pos m := by
 have ht : 0 ≤ sgn ((X.acct i).pos m) * (X.acct i).pos m := by rw [sgn_mul]; omega
 have hW : ∀ j : Int, 0 ≤ j → j < X.mem → 0 ≤ X.wt i m (sgn ((X.acct i).pos m)) j := fun j _ _ => wt_nonneg _ _ _ _ _
 have hs := shF_shr ht hW
 have hle := wt_sum hZ hi m0 m1 (sgn_one ((X.acct i).pos m))
 exact ⟨hs, hs.le hW ht hle, hs.all ht hle⟩
theorem tkP_sign {X : HM} (hZ : HZ X) {i m j : Int} (hi : 1 ≤ i ∧ i ≤ X.mem) (m0 : 0 ≤ m) (m1 : m < 12) (j0 : 0 ≤ j) (j1 : j < X.mem) (hj : j ≠ i - 1) :
  (0 ≤ (X.ac j).pos m → 0 ≤ X.tkP i j m ∧ X.tkP i j m ≤ (X.ac j).pos m) ∧ ((X.ac j).pos m ≤ 0 → (X.ac j).pos m ≤ X.tkP i j m ∧ X.tkP i j m ≤ 0) ∧ ((X.ac j).out = true → X.tkP i j m = (X.ac j).pos m) := by
 unfold HM.tkP
 by_cases cx : (X.acct i).pos m = 0
 ·rw [if_pos cx]
  exact ⟨fun _ => by omega, fun _ => by omega, fun _ => rfl⟩
 ·rw [if_neg cx, if_neg hj]
  obtain ⟨_, h1, _⟩ := tk_share hZ hi m0 m1
  have h2 := h1 j j0 j1
  revert h2
  generalize shF (sgn ((X.acct i).pos m) * (X.acct i).pos m) X.mem (X.wt i m (sgn ((X.acct i).pos m))) j = x
  unfold HM.wt
  intro h2
  by_cases c : X.othP i j = true
  ·have ho : (X.ac j).out = false := by
    unfold HM.othP at c
    rw [Bool.and_eq_true] at c
    simpa using c.2
   rw [if_pos c] at h2
   rcases sgn_one ((X.acct i).pos m) with e | e
   ·rw [e] at h2 ⊢
    exact ⟨fun _ => by omega, fun _ => by omega, fun h => by rw [ho] at h; cases h⟩
   ·rw [e] at h2 ⊢
    exact ⟨fun _ => by omega, fun _ => by omega, fun h => by rw [ho] at h; cases h⟩
  ·rw [if_neg c] at h2
   have e : x = 0 := by omega
   rw [e, Int.mul_zero]
   exact ⟨fun _ => by omega, fun _ => by omega, fun _ => by omega⟩
theorem tkP_own {X : HM} {i m : Int} : X.tkP i (i - 1) m = 0 := by
 unfold HM.tkP
 split
 ·assumption
 ·exact if_pos rfl
theorem tkP_abs {X : HM} (hZ : HZ X) {i m j : Int} (hi : 1 ≤ i ∧ i ≤ X.mem) (m0 : 0 ≤ m) (m1 : m < 12) (j0 : 0 ≤ j) (j1 : j < X.mem) : (X.tkP i j m).natAbs ≤ ((X.ac j).pos m).natAbs := by
 by_cases e : j = i - 1
 ·rw [e, tkP_own]
  exact Nat.zero_le _
 ·obtain ⟨h1, h2, _⟩ := tkP_sign hZ hi m0 m1 j0 j1 e
  omega
theorem tkP_sum {X : HM} (hZ : HZ X) {i m : Int} (hi : 1 ≤ i ∧ i ≤ X.mem) (m0 : 0 ≤ m) (m1 : m < 12) : sm (fun j => X.tkP i j m) X.mem = 0 := by
 by_cases c : (X.acct i).pos m = 0
 ·have e : sm (fun j => X.tkP i j m) X.mem = sm (fun j => (X.ac j).pos m) X.mem := sm_congr fun j _ _ => if_pos c
  rw [e]
  exact hZ.zero m m0 m1
 ·obtain ⟨_, h1, h2⟩ := tk_share hZ hi m0 m1
  have hw : X.wt i m (sgn ((X.acct i).pos m)) (i - 1) = 0 := by
   unfold HM.wt HM.othP
   rw [if_neg (by simp)]
  have h3 := h1 (i - 1) (by omega) (by omega)
  have e : sm (fun j => X.tkP i j m) X.mem = sm (upd (fun j => (X.ac j).pos m + sgn ((X.acct i).pos m) * shF (sgn ((X.acct i).pos m) * (X.acct i).pos m) X.mem (X.wt i m (sgn ((X.acct i).pos m))) j) (i - 1) 0) X.mem := sm_congr fun j _ _ => by
   unfold HM.tkP upd
   rw [if_neg c]
  have hx : (X.ac (i - 1)).pos m = (X.acct i).pos m := rfl
  rw [e, sm_upd _ _ _ (by omega) (by omega), sm_add, sm_mul, hZ.zero m m0 m1, h2, hx]
  generalize shF (sgn ((X.acct i).pos m) * (X.acct i).pos m) X.mem (X.wt i m (sgn ((X.acct i).pos m))) (i - 1) = y at h3
  have hy : y = 0 := by omega
  rw [hy, Int.mul_zero]
  rcases sgn_one ((X.acct i).pos m) with e | e
  ·rw [e]
   omega
  ·rw [e]
   omega
theorem HZ.d0 {X : HM} (hZ : HZ X) {i : Int} (hi : 1 ≤ i ∧ i ≤ X.mem) : HZ (X.d0 i) := by
 refine ⟨fun m m0 m1 => ?_, fun j j0 j1 hj m m0 m1 => ?_, fun j j0 j1 hj => hZ.oc j j0 j1 hj⟩
 ·show sm (fun j => (X.tkG i 12 j).pos m) X.mem = 0
  have e : sm (fun j => (X.tkG i 12 j).pos m) X.mem = sm (fun j => X.tkP i j m) X.mem := sm_congr fun j _ _ => if_pos m1
  rw [e]
  exact tkP_sum hZ hi m0 m1
 ·show (X.tkG i 12 j).pos m = 0
  have e : (X.tkG i 12 j).pos m = X.tkP i j m := if_pos m1
  rw [e]
  by_cases c : j = i - 1
  ·rw [c]; exact tkP_own
  ·rw [(tkP_sign hZ hi m0 m1 j0 j1 c).2.2 hj]
   exact hZ.out j j0 j1 hj m m0 m1
theorem HB.d0 {j : Nat} {X : HM} (h : HB j X) {i : Int} (hi : 1 ≤ i ∧ i ≤ X.mem) : HB j (X.d0 i) := by
 have hmo := h.mo
 refine ⟨h.mem, h.mo, h.k, h.pr, h.prz, h.mv, h.rate, h.cap, h.hole, fun l l0 l1 m m0 m1 => ?_, fun l l0 l1 m hm => ?_, h.cash, h.fund, h.n, h.Z.d0 hi⟩
 ·show ((X.tkG i 12 l).pos m).natAbs ≤ _
  rw [show (X.tkG i 12 l).pos m = X.tkP i l m from if_pos m1]
  exact Nat.le_trans (tkP_abs h.Z hi m0 m1 l0 l1) (h.pos l l0 l1 m m0 m1)
 ·show (X.tkG i 12 l).pos m = 0
  have hz : ∀ j : Int, 0 ≤ j → j < X.mem → (X.ac j).pos m = 0 := fun j j0 j1 => h.posz j j0 j1 m hm
  have hm' : X.mo ≤ m := hm
  by_cases c : m < 12
  ·rw [show (X.tkG i 12 l).pos m = X.tkP i l m from if_pos c]
   unfold HM.tkP
   have hz0 : (X.acct i).pos m = 0 := hz (i - 1) (by omega) (by omega)
   rw [if_pos hz0]
   exact hz l l0 l1
  ·rw [show (X.tkG i 12 l).pos m = (X.ac l).pos m from if_neg c]
   exact hz l l0 l1
theorem sp_share (X : HM) (get : HA → Int) (i x : Int) (hx : 0 ≤ x) :
  0 ≤ X.spT get i x ∧ X.spT get i x ≤ x ∧ X.spT get i x ≤ sm (X.spW get i) X.mem ∧ (∀ j : Int, 0 ≤ j → j < X.mem → 0 ≤ shF (X.spT get i x) X.mem (X.spW get i) j ∧ shF (X.spT get i x) X.mem (X.spW get i) j ≤ X.spW get i j) ∧ sm (shF (X.spT get i x) X.mem (X.spW get i)) X.mem = X.spT get i x := by
 have hW : ∀ j : Int, 0 ≤ j → j < X.mem → 0 ≤ X.spW get i j := fun j _ _ => spW_nonneg _ _ _ _
 have hS := sm_nonneg hW
 have h0 : 0 ≤ X.spT get i x ∧ X.spT get i x ≤ x ∧ X.spT get i x ≤ sm (X.spW get i) X.mem := by unfold HM.spT; omega
 have hs := shF_shr h0.1 hW
 exact ⟨h0.1, h0.2.1, h0.2.2, hs.le hW h0.1 h0.2.2, hs.all h0.1 h0.2.2⟩
theorem spA_at (X : HM) (get : HA → Int) (set : HA → Int → HA) (i x j : Int) : X.spA get set i x j = if X.othP i j = true then set (X.ac j) (get (X.ac j) - shF (X.spT get i x) X.mem (X.spW get i) j) else X.ac j := rfl
theorem sp_get (X : HM) (get : HA → Int) (set : HA → Int → HA) (hgs : ∀ a y, get (set a y) = y) (i x : Int) (hx : 0 ≤ x) {j : Int} (j0 : 0 ≤ j) (j1 : j < X.mem) :
  get (X.spA get set i x j) = get (X.ac j) - shF (X.spT get i x) X.mem (X.spW get i) j ∧ get (X.spA get set i x j) ≤ get (X.ac j) ∧ min 0 (get (X.ac j)) ≤ get (X.spA get set i x j) := by
 obtain ⟨_, _, _, h1, _⟩ := sp_share X get i x hx
 have h2 := h1 j j0 j1
 rw [spA_at]
 by_cases c : X.othP i j = true
 ·rw [if_pos c, hgs]
  have hw : X.spW get i j = max 0 (get (X.ac j)) := if_pos c
  rw [hw] at h2
  exact ⟨rfl, by omega, by omega⟩
 ·rw [if_neg c]
  have hw : X.spW get i j = 0 := if_neg c
  rw [hw] at h2
  exact ⟨by omega, by omega, by omega⟩
theorem sp_own (X : HM) (get : HA → Int) (set : HA → Int → HA) (i x j : Int) (h : X.othP i j ≠ true) : X.spA get set i x j = X.ac j := if_neg h
end Go.Proofs.Ytfbbagnpdfafjaa
