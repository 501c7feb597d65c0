import Derived.Test.YtfbbagnpdfafjaaHdB
set_option maxRecDepth 100000
namespace Go.Proofs.Ytfbbagnpdfafjaa
open Go.RowKit Go.Proofs
theorem sm_shift (f : Int → Int) : ∀ k : Nat, sm f ((k + 1 : Nat) : Int) = f 0 + sm (fun t => f (t + 1)) k
 | 0 => by
  rw [show ((0 + 1 : Nat) : Int) = 0 + 1 by rfl, sm_succ f (by decide)]
  show 0 + f 0 = f 0 + 0
  omega
 | k + 1 => by
  rw [show ((k + 1 + 1 : Nat) : Int) = ((k + 1 : Nat) : Int) + 1 by omega, sm_succ f (by omega), sm_shift f k, show ((k + 1 : Nat) : Int) = (k : Int) + 1 by omega, sm_succ (fun t => f (t + 1)) (by omega)]
  omega
theorem filL_tail : ∀ k : Nat, (filL (fun j => decide (j ≠ 0)) (k + 1)).length = k ∧ ∀ t : Int, 0 ≤ t → t < k → glF (filL (fun j => decide (j ≠ 0)) (k + 1)) t = t + 1
 | 0 => ⟨rfl, fun t t0 t1 => by omega⟩
 | k + 1 => by
  obtain ⟨h1, h2⟩ := filL_tail k
  have e : filL (fun j => decide (j ≠ 0)) (k + 1 + 1) = filL (fun j => decide (j ≠ 0)) (k + 1) ++ [((k + 1 : Nat) : Int)] := by
   rw [filL_succ]
   exact if_pos (decide_eq_true (by omega))
  rw [e]
  refine ⟨by rw [List.length_append, h1]; rfl, fun t t0 t1 => ?_⟩
  by_cases c : t < k
  ·rw [glF_low t0 (by rw [h1]; exact c)]
   exact h2 t t0 c
  ·have ht : t = ((filL (fun j => decide (j ≠ 0)) (k + 1)).length : Int) := by rw [h1]; omega
   rw [ht, glF_top, h1]
   omega
theorem Shr.shift {total : Int} {k : Nat} {W out : Int → Int} (ht : 0 ≤ total) (hW : ∀ i : Int, 0 ≤ i → i < ((k + 1 : Nat) : Int) → 0 ≤ W i) (h0 : W 0 = 0) (h : Shr total k (fun t => W (t + 1)) out) : Shr total (k + 1) W (fun j => if j = 0 then 0 else out (j - 1)) := by
 obtain ⟨h1, h2⟩ := filL_tail k
 refine Shr.embed (P := fun j => decide (j ≠ 0)) (o := out) ht hW (fun j _ _ hp => ?_) ?_ (fun t t0 t1 => ?_) (fun j _ _ hp => ?_)
 ·have : j = 0 := by simpa using hp
  rw [this, h0]
 ·rw [h1]
  exact h.congr (fun i i0 i1 => by rw [h2 i i0 i1]) fun _ _ _ => rfl
 ·rw [h1] at t1
  rw [h2 t t0 t1]
  show (if t + 1 = 0 then 0 else out (t + 1 - 1)) = out t
  rw [if_neg (by omega), show t + 1 - 1 = t by omega]
 ·have : j = 0 := by simpa using hp
  show (if j = 0 then 0 else out (j - 1)) = 0
  rw [if_pos this]
theorem Shr.none {n : Nat} {W out : Int → Int} (h : Shr 0 n W out) {i : Int} (i0 : 0 ≤ i) (i1 : i < n) : out i = 0 := by
 have hs : sm out n = 0 := by rw [h.sum]; split <;> rfl
 have hp : ∀ j : Int, 0 ≤ j → j < n → 0 ≤ out j := fun j j0 j1 => by
  have := h.one j j0 j1
  rw [Int.zero_mul, Int.zero_ediv] at this
  omega
 have h1 := sm_pos hp i i0 i1
 have h2 := hp i i0 i1
 omega
theorem need0 {X : HM} (hk : X.k = 0) (hr : X.rate = 0) (a : HA) : X.need a = 0 := by
 unfold HM.need marF
 rw [hk, hr, Int.mul_zero]
 rfl
structure Dq (Q C : Int → Int) (n : Nat) (i s a b d : Int) (X : HM) : Prop where
 mem : X.mem = n
 mo : X.mo = 1
 k : X.k = 0
 rate : X.rate = 0
 cap : X.cap = 10
 pr : X.pr 0 = 500
 out : ∀ j : Int, 0 ≤ j → j < n → (X.ac j).out = false
 a0 : (X.ac 0).cash = 0 ∧ (X.ac 0).fund = 0 ∧ (X.ac 0).pos 0 = s
 don : ∀ j : Int, 1 ≤ j → j < i - 1 → (X.ac j).cash = 100 - C j ∧ (X.ac j).fund = C j ∧ (X.ac j).pos 0 = -(Q j)
 it : (X.ac (i - 1)).cash = a ∧ (X.ac (i - 1)).fund = b ∧ (X.ac (i - 1)).pos 0 = d
 tod : ∀ j : Int, i ≤ j → j < n → (X.ac j).cash = 0 ∧ (X.ac j).fund = 0 ∧ (X.ac j).pos 0 = 0
section
variable {Q C : Int → Int} {n : Nat} {i s a b d : Int} {X : HM}
theorem Dq.set (h : Dq Q C n i s a b d X) (hi : 2 ≤ i) {A : HA} (ho : A.out = false) : Dq Q C n i s A.cash A.fund (A.pos 0) (X.setA i A) := by
 have e : ∀ j : Int, j ≠ i - 1 → (X.setA i A).ac j = X.ac j := fun j hj => upd_ne _ _ hj
 have e1 : (X.setA i A).ac (i - 1) = A := upd_same _ _ _
 refine ⟨h.mem, h.mo, h.k, h.rate, h.cap, h.pr, fun j j0 j1 => ?_, by rw [e 0 (by omega)]; exact h.a0, fun j j0 j1 => by rw [e j (by omega)]; exact h.don j j0 j1, by rw [e1]; exact ⟨rfl, rfl, rfl⟩, fun j j0 j1 => by rw [e j (by omega)]; exact h.tod j j0 j1⟩
 by_cases c : j = i - 1
 ·rw [c, e1]; exact ho
 ·rw [e j c]; exact h.out j j0 j1
theorem Dq.cast {a' b' d' : Int} (h : Dq Q C n i s a b d X) (ea : a = a') (eb : b = b') (ed : d = d') : Dq Q C n i s a' b' d' X := by subst ea eb ed; exact h
theorem Dq.act (h : Dq Q C n i s a b d X) {j : Int} (hj : 1 ≤ j ∧ j ≤ n) : X.act j = 0 := by
 unfold HM.act
 rw [if_pos (show X.is j from ⟨hj.1, by rw [h.mem]; exact hj.2⟩), if_neg]
 rw [show X.acct j = X.ac (j - 1) from rfl, h.out (j - 1) (by omega) (by omega)]
 decide
theorem Dq.mny (h : Dq Q C n i s a b d X) (hi : 2 ≤ i ∧ i ≤ n) {x : Int} (hx : 1 ≤ x ∧ x ≤ 1000000000000) : X.mny i x = 0 := by
 unfold HM.mny
 rw [if_neg (by rw [h.act (by omega)]; decide)]
 exact if_pos hx
theorem Dq.deposit (h : Dq Q C n i s 0 0 0 X) (hi : 2 ≤ i ∧ i ≤ n) : Dq Q C n i s 100 0 0 (X.deposit i 100) := by
 have e : X.deposit i 100 = X.setA i { X.acct i with cash := (X.acct i).cash + 100 } := if_pos (h.mny hi (by decide))
 have h1 := h.set hi.1 (A := { X.acct i with cash := (X.acct i).cash + 100 }) (h.out (i - 1) (by omega) (by omega))
 have e1 : (X.acct i).cash + 100 = 100 := by show (X.ac (i - 1)).cash + 100 = 100; rw [h.it.1]; rfl
 have e2 : (X.acct i).fund = 0 := h.it.2.1
 have e3 : (X.acct i).pos 0 = 0 := h.it.2.2
 rw [e]
 exact h1.cast e1 e2 e3
theorem Dq.spd (h : Dq Q C n i s 100 0 0 X) (hi : 2 ≤ i ∧ i ≤ n) {c : Int} (hc : 1 ≤ c ∧ c ≤ 30) : X.spd i c = 0 := by
 have e1 : (X.acct i).cash = 100 := h.it.1
 unfold HM.spd
 rw [if_neg (by rw [h.mny hi (by omega)]; decide), if_neg (by omega)]
 rw [need0 h.k h.rate]
 exact if_pos (by omega)
theorem Dq.contrib (h : Dq Q C n i s 100 0 0 X) (hi : 2 ≤ i ∧ i ≤ n) {c : Int} (hc : 1 ≤ c ∧ c ≤ 30) : Dq Q C n i s (100 - c) c 0 (X.contrib i c) := by
 have e : X.contrib i c = X.setA i { X.acct i with cash := (X.acct i).cash - c, fund := (X.acct i).fund + c } := if_pos (h.spd hi hc)
 have h1 := h.set hi.1 (A := { X.acct i with cash := (X.acct i).cash - c, fund := (X.acct i).fund + c }) (h.out (i - 1) (by omega) (by omega))
 have e1 : (X.acct i).cash - c = 100 - c := by show (X.ac (i - 1)).cash - c = _; rw [h.it.1]
 have e2 : (X.acct i).fund + c = c := by show (X.ac (i - 1)).fund + c = _; rw [h.it.2.1, Int.zero_add]
 have e3 : (X.acct i).pos 0 = 0 := h.it.2.2
 rw [e]
 exact h1.cast e1 e2 e3
theorem Dq.trd (h : Dq Q C n i s a b 0 X) (hi : 2 ≤ i ∧ i ≤ n) (ha : 0 ≤ a) {q : Int} (hq : 1 ≤ q ∧ q ≤ 20) : X.trd ⟨1, i, 0, q, 500⟩ = 0 := by
 have hmem := h.mem
 have hmo := h.mo
 have hd : X.due ⟨1, i, 0, q, 500⟩ = 0 := by show q * (X.pr 0 - 500) = 0; rw [h.pr]; exact Int.mul_zero _
 have h4 : ¬ X.no4 ⟨1, i, 0, q, 500⟩ := by
  unfold HM.no4 HM.is
  dsimp only
  omega
 have h1 : ¬ Ct.bad ⟨1, i, 0, q, 500⟩ := by
  unfold Ct.bad
  dsimp only
  omega
 have o1 : (X.acct 1).out = false := h.out (1 - 1) (by decide) (by omega)
 have o2 : (X.acct i).out = false := h.out (i - 1) (by omega) (by omega)
 have hp : X.par ⟨1, i, 0, q, 500⟩ = 0 := by
  unfold HM.par
  rw [if_neg h4, if_neg h1, if_neg]
  dsimp only
  rw [o1, o2]
  decide
 have c1 : (X.acct 1).cash = 0 := h.a0.1
 have c2 : (X.acct i).cash = a := h.it.1
 have hA : X.alw (X.acct 1) (X.newB ⟨1, i, 0, q, 500⟩) := .inl (by
  rw [need0 h.k h.rate]
  show 0 ≤ (X.acct 1).cash + X.due ⟨1, i, 0, q, 500⟩
  omega)
 have hB : X.alw (X.acct i) (X.newS ⟨1, i, 0, q, 500⟩) := .inl (by
  rw [need0 h.k h.rate]
  show 0 ≤ (X.acct i).cash - X.due ⟨1, i, 0, q, 500⟩
  omega)
 unfold HM.trd
 rw [if_neg (by rw [hp]; decide)]
 exact if_pos ⟨hA, hB⟩
theorem Dq.trade (h : Dq Q C n i s a b 0 X) (hi : 2 ≤ i ∧ i ≤ n) (ha : 0 ≤ a) {q : Int} (hq : 1 ≤ q ∧ q ≤ 20) : Dq Q C n i (s + q) a b (-q) (X.trade ⟨1, i, 0, q, 500⟩) := by
 have hd : X.due ⟨1, i, 0, q, 500⟩ = 0 := by show q * (X.pr 0 - 500) = 0; rw [h.pr]; exact Int.mul_zero _
 have e : X.trade ⟨1, i, 0, q, 500⟩ = { (X.setA 1 (X.newB ⟨1, i, 0, q, 500⟩)).setA i (X.newS ⟨1, i, 0, q, 500⟩) with n := X.n + 1, ct := upd X.ct X.n ⟨1, i, 0, q, 500⟩ } := if_pos (h.trd hi ha hq)
 have eB : ∀ j : Int, j ≠ 0 → j ≠ i - 1 → (X.trade ⟨1, i, 0, q, 500⟩).ac j = X.ac j := fun j h0 h1 => by
  rw [e]
  show upd (upd X.ac (1 - 1) _) (i - 1) _ j = _
  rw [upd_ne _ _ h1, upd_ne _ _ (by omega)]
 have e0 : (X.trade ⟨1, i, 0, q, 500⟩).ac 0 = X.newB ⟨1, i, 0, q, 500⟩ := by
  rw [e]
  show upd (upd X.ac (1 - 1) _) (i - 1) _ 0 = _
  rw [upd_ne _ _ (by omega)]
  exact upd_same _ _ _
 have ei : (X.trade ⟨1, i, 0, q, 500⟩).ac (i - 1) = X.newS ⟨1, i, 0, q, 500⟩ := by
  rw [e]
  exact upd_same _ _ _
 refine ⟨by rw [e]; exact h.mem, by rw [e]; exact h.mo, by rw [e]; exact h.k, by rw [e]; exact h.rate, by rw [e]; exact h.cap, by rw [e]; exact h.pr, fun j j0 j1 => ?_, ?_, fun j j0 j1 => by rw [eB j (by omega) (by omega)]; exact h.don j j0 j1, ?_, fun j j0 j1 => by rw [eB j (by omega) (by omega)]; exact h.tod j j0 j1⟩
 ·by_cases c0 : j = 0
  ·rw [c0, e0]; exact h.out (1 - 1) (by decide) (by omega)
  ·by_cases c1 : j = i - 1
   ·rw [c1, ei]; exact h.out (i - 1) (by omega) (by omega)
   ·rw [eB j c0 c1]; exact h.out j j0 j1
 ·rw [e0]
  refine ⟨?_, h.a0.2.1, ?_⟩
  ·show (X.ac 0).cash + X.due ⟨1, i, 0, q, 500⟩ = 0
   rw [hd, h.a0.1]
   rfl
  ·show upd (X.ac 0).pos 0 ((X.ac 0).pos 0 + q) 0 = s + q
   rw [upd_same, h.a0.2.2]
 ·rw [ei]
  refine ⟨?_, h.it.2.1, ?_⟩
  ·show (X.ac (i - 1)).cash - X.due ⟨1, i, 0, q, 500⟩ = a
   rw [hd, h.it.1, Int.sub_zero]
  ·show upd (X.ac (i - 1)).pos 0 ((X.ac (i - 1)).pos 0 - q) 0 = -q
   rw [upd_same, h.it.2.2, Int.zero_sub]
theorem Dq.next (h : Dq Q C n i s (100 - C (i - 1)) (C (i - 1)) (-(Q (i - 1))) X) (hi : 2 ≤ i ∧ i < n) : Dq Q C n (i + 1) s 0 0 0 X :=
 ⟨h.mem, h.mo, h.k, h.rate, h.cap, h.pr, h.out, h.a0, fun j j0 j1 => by
  by_cases c : j = i - 1
  ·rw [c]; exact h.it
  ·exact h.don j j0 (by omega), by rw [show i + 1 - 1 = i by omega]; exact h.tod i (by omega) hi.2, fun j j0 j1 => h.tod j (by omega) j1⟩
end
structure Dz (Q C : Int → Int) (n : Nat) (X : HM) : Prop where
 mem : X.mem = n
 mo : X.mo = 1
 pr : X.pr 0 = 500
 out : ∀ j : Int, 0 ≤ j → j < n → (X.ac j).out = false
 a0 : (X.ac 0).cash = 0 ∧ (X.ac 0).fund = 0 ∧ (X.ac 0).pos 0 = sm Q n
 don : ∀ j : Int, 1 ≤ j → j < n → (X.ac j).cash = 100 - C j ∧ (X.ac j).fund = C j ∧ (X.ac j).pos 0 = -(Q j)
structure Dy (Q C : Int → Int) (n : Nat) (p : Int) (X : HM) : Prop where
 mem : X.mem = n
 mo : X.mo = 1
 out : ∀ j : Int, 0 ≤ j → j < n → (X.ac j).out = false
 a0 : (X.ac 0).cash = sm Q n * (p - 500) ∧ (X.ac 0).fund = 0 ∧ (X.ac 0).pos 0 = sm Q n
 don : ∀ j : Int, 1 ≤ j → j < n → (X.ac j).cash = 100 - C j - Q j * (p - 500) ∧ (X.ac j).fund = C j ∧ (X.ac j).pos 0 = -(Q j)
theorem Dz.mrk {Q C : Int → Int} {n : Nat} {X : HM} (h : Dz Q C n X) {p : Int} (hp : 1 ≤ p ∧ p ≤ 500) : X.mrk 0 p = 0 := by
 have hmo := h.mo
 unfold HM.mrk
 rw [if_neg (by omega)]
 exact if_pos (by omega)
theorem Dz.mark {Q C : Int → Int} {n : Nat} {X : HM} (h : Dz Q C n X) {p : Int} (hp : 1 ≤ p ∧ p ≤ 500) : Dy Q C n p (X.mark 0 p) := by
 have e : X.mark 0 p = { X with ac := fun j => X.mkA 0 p (X.ac j), pr := upd X.pr 0 p } := if_pos (h.mrk hp)
 rw [e]
 refine ⟨h.mem, h.mo, h.out, ⟨?_, h.a0.2.1, h.a0.2.2⟩, fun j j0 j1 => ⟨?_, (h.don j j0 j1).2.1, (h.don j j0 j1).2.2⟩⟩
 ·show (X.ac 0).cash + (X.ac 0).pos 0 * (p - X.pr 0) = _
  rw [h.a0.1, h.a0.2.2, h.pr, Int.zero_add]
 ·show (X.ac j).cash + (X.ac j).pos 0 * (p - X.pr 0) = _
  rw [(h.don j j0 j1).1, (h.don j j0 j1).2.2, h.pr, Int.neg_mul]
  omega
theorem dflt_parts {j : Nat} {X : HM} (h : HB j X) {i : Int} (ha : X.act i = 0) : ∃ lo lc lf lg lh, X.loss i = [lo, lc, lf, lg, lh] ∧ Fell X (X.dflt i) i lo lc lf lg lh ∧
  (∀ l : Int, 0 ≤ l → l < X.mem → l ≠ i - 1 → ((X.dflt i).ac l).pos = (X.tkG i 12 l).pos) ∧
  (lf ≤ sm (fun l => if X.oth i l then max 0 (X.ac l).fund else 0) X.mem) ∧ (lg ≤ sm (fun l => if X.oth i l then max 0 (X.ac l).cash else 0) X.mem) ∧
  (∀ l : Int, 0 ≤ l → l < X.mem → l ≠ i - 1 → ∀ W out, Shr lf X.mem W out → (∀ t : Int, 0 ≤ t → t < X.mem → W t = if X.oth i t then max 0 (X.ac t).fund else 0) → ((X.dflt i).ac l).fund = (X.ac l).fund - out l) ∧
  (∀ l : Int, 0 ≤ l → l < X.mem → l ≠ i - 1 → ∀ W out, Shr lg X.mem W out → (∀ t : Int, 0 ≤ t → t < X.mem → W t = if X.oth i t then max 0 (X.ac t).cash else 0) → ((X.dflt i).ac l).cash = (X.ac l).cash - out l) := by
 obtain ⟨hi, _⟩ := act_zero ha
 have hm := d_mem X i
 unfold HM.loss HM.dflt
 rw [if_pos ha]
 by_cases c : 0 < X.l0 i
 ·rw [if_pos ⟨ha, c⟩, if_pos c]
  have hfu := h.fund (i - 1) (by omega) (by omega)
  have hT := took c (X := X) hfu.1 h.cap.1
  have e2 : X.l2 i = X.l1 i - X.t1 i := rfl
  have e3 : X.l3 i = X.l2 i - X.t2 i := rfl
  have t2 := hT.t2
  have t3 := hT.t3
  have t1 := hT.t1
  have hW2 : ∀ l : Int, (X.d3 i).spW HA.fund i l = if X.oth i l then max 0 (X.ac l).fund else 0 := fun l => spW_oth HA.fund l fun hn => ⟨(d3_oth X i l hn).2.1, (d3_oth X i l hn).1⟩
  have hW3 : ∀ l : Int, (X.d4 i).spW HA.cash i l = if X.oth i l then max 0 (X.ac l).cash else 0 := fun l => spW_oth HA.cash l fun hn => d4_oth X i l hn
  obtain ⟨_, _, b2, _, _⟩ := sp_share (X.d3 i) HA.fund i (X.l2 i) (by omega)
  obtain ⟨_, _, b3, _, _⟩ := sp_share (X.d4 i) HA.cash i (X.l3 i) (by omega)
  rw [hm.2.2.1] at b2
  rw [hm.2.2.2.1] at b3
  refine ⟨_, _, _, _, _, rfl, d7_fell h hi c, fun l l0 l1 hn => (d7_oth hT l0 l1 hn).2.1, ?_, ?_, fun l l0 l1 hn W out hs he => ?_, fun l l0 l1 hn W out hs he => ?_⟩
  ·rw [← sm_congr (f := (X.d3 i).spW HA.fund i) fun l _ _ => hW2 l]
   exact b2
  ·rw [← sm_congr (f := (X.d4 i).spW HA.cash i) fun l _ _ => hW3 l]
   exact b3
  ·rw [(d7_oth hT l0 l1 hn).2.2.2.2.2.2.1, shF_eq (hs.congr (W' := (X.d3 i).spW HA.fund i) (fun t t0 t1 => by rw [he t t0 t1, hW2 t]) fun _ _ _ => rfl) l l0 l1]
  ·rw [(d7_oth hT l0 l1 hn).2.2.2.2.2.2.2, shF_eq (hs.congr (W' := (X.d4 i).spW HA.cash i) (fun t t0 t1 => by rw [he t t0 t1, hW3 t]) fun _ _ _ => rfl) l l0 l1]
 ·rw [if_neg (fun h => c h.2), if_neg c]
  have e : ∀ l : Int, l ≠ i - 1 → ((X.d0 i).setA i { (X.d0 i).acct i with out := true }).ac l = X.tkG i 12 l := fun l hn => upd_ne _ _ hn
  refine ⟨_, _, _, _, _, rfl, dOut_fell h hi c, fun l _ _ hn => by rw [e l hn], sm_nonneg fun l _ _ => by split <;> omega, sm_nonneg fun l _ _ => by split <;> omega, fun l l0 l1 hn W out hs _ => ?_, fun l l0 l1 hn W out hs _ => ?_⟩
  ·rw [e l hn, hs.none l0 l1, Int.sub_zero]
   rfl
  ·rw [e l hn, hs.none l0 l1, Int.sub_zero]
   rfl
section
variable {Q C : Int → Int} {k : Nat} {p : Int} {X : HM} {j : Nat}
theorem Dy.act (h : Dy Q C (k + 1) p X) (hX : HB j X) : X.act 1 = 0 := by
 have := hX.mem
 have hm := h.mem
 unfold HM.act
 rw [if_pos (show X.is 1 from ⟨by decide, by omega⟩), if_neg]
 rw [show X.acct 1 = X.ac 0 from rfl, h.out 0 (by decide) (by omega)]
 decide
theorem Dy.cash (h : Dy Q C (k + 1) p X) (hQ : ∀ t : Int, 0 ≤ Q t ∧ Q t ≤ 20) (hC : ∀ t : Int, 0 ≤ C t ∧ C t ≤ 30) (hp : 1 ≤ p ∧ p ≤ 500) {t : Int} (t0 : 1 ≤ t) (t1 : t < ((k + 1 : Nat) : Int)) : 70 ≤ (X.ac t).cash ∧ (X.ac t).cash ≤ 20000 := by
 rw [(h.don t t0 t1).1]
 have h1 := hQ t
 have h2 := hC t
 have h3 : 0 ≤ Q t * (500 - p) := Int.mul_nonneg h1.1 (by omega)
 have h4 : Q t * (500 - p) ≤ 20 * 499 := Int.mul_le_mul h1.2 (by omega) (by omega) (by decide)
 have h5 : Q t * (p - 500) = -(Q t * (500 - p)) := by rw [show p - 500 = -(500 - p) by omega, Int.mul_neg]
 omega
theorem Dy.oth (h : Dy Q C (k + 1) p X) {t : Int} (t0 : 0 ≤ t) (t1 : t < ((k + 1 : Nat) : Int)) : X.oth 1 t ↔ t ≠ 0 := by
 unfold HM.oth
 rw [h.out t t0 t1]
 exact ⟨fun hh => by have := hh.1; omega, fun hh => ⟨by omega, rfl⟩⟩
theorem Dy.dealt (h : Dy Q C (k + 1) p X) (hX : HB j X) (hQ : ∀ t : Int, 0 ≤ Q t ∧ Q t ≤ 20) (hQ0 : Q 0 = 0) (hC : ∀ t : Int, 0 ≤ C t ∧ C t ≤ 30) (hC0 : C 0 = 0) (hp : 1 ≤ p ∧ p ≤ 500) {os op og : Int → Int} : ∃ lo lc lf lg lh, X.loss 1 = [lo, lc, lf, lg, lh] ∧ Fell X (X.dflt 1) 1 lo lc lf lg lh ∧
  (0 ≤ lf ∧ lf ≤ sm (fun t => C (t + 1)) k) ∧ (0 ≤ lg ∧ lg ≤ sm (fun t => (X.ac (t + 1)).cash) k) ∧
  (Shr (sm Q ((k + 1 : Nat) : Int)) k (fun t => Q (t + 1)) os → ∀ t : Int, 0 ≤ t → t < k → ((X.dflt 1).ac (t + 1)).pos 0 = os t - Q (t + 1)) ∧
  (Shr lf k (fun t => C (t + 1)) op → ∀ t : Int, 0 ≤ t → t < k → ((X.dflt 1).ac (t + 1)).fund = C (t + 1) - op t) ∧
  (Shr lg k (fun t => (X.ac (t + 1)).cash) og → ∀ t : Int, 0 ≤ t → t < k → ((X.dflt 1).ac (t + 1)).cash = (X.ac (t + 1)).cash - og t) := by
 have hm := h.mem
 have hact := h.act hX
 obtain ⟨lo, lc, lf, lg, lh, hl, hF, hpos, bf, bg, hf, hg⟩ := dflt_parts hX hact
 obtain ⟨_, _, nn3, nn4, _⟩ := hF.nn
 have hoth := fun {t : Int} t0 t1 => h.oth (t := t) t0 t1
 have hcash := fun {t : Int} t0 t1 => h.cash hQ hC hp (t := t) t0 t1
 have eC : ∀ t : Int, 0 ≤ t → t < ((k + 1 : Nat) : Int) → C t = if X.oth 1 t then max 0 (X.ac t).fund else 0 := fun t t0 t1 => by
  by_cases c : t = 0
  ·rw [if_neg (fun hh => (hoth t0 t1).1 hh c), c, hC0]
  ·rw [if_pos ((hoth t0 t1).2 c), (h.don t (by omega) t1).2.1]
   have := hC t
   omega
 have eG : ∀ t : Int, 0 ≤ t → t < ((k + 1 : Nat) : Int) → (if t = 0 then 0 else (X.ac t).cash) = if X.oth 1 t then max 0 (X.ac t).cash else 0 := fun t t0 t1 => by
  by_cases c : t = 0
  ·rw [if_neg (fun hh => (hoth t0 t1).1 hh c), if_pos c]
  ·rw [if_pos ((hoth t0 t1).2 c), if_neg c]
   have := hcash (t := t) (by omega) t1
   omega
 have sC : sm (fun t => C (t + 1)) k = sm (fun l => if X.oth 1 l then max 0 (X.ac l).fund else 0) X.mem := by
  rw [hm, ← sm_congr (f := C) eC, sm_shift C k, hC0, Int.zero_add]
 have sG : sm (fun t => (X.ac (t + 1)).cash) k = sm (fun l => if X.oth 1 l then max 0 (X.ac l).cash else 0) X.mem := by
  rw [hm, ← sm_congr (f := fun t => if t = 0 then 0 else (X.ac t).cash) eG, sm_shift (fun t => if t = 0 then 0 else (X.ac t).cash) k]
  rw [sm_congr (f := fun t => if t + 1 = 0 then 0 else (X.ac (t + 1)).cash) (g := fun t => (X.ac (t + 1)).cash) fun t t0 _ => if_neg (by omega)]
  exact (Int.zero_add _).symm
 refine ⟨lo, lc, lf, lg, lh, hl, hF, ⟨nn3, by rw [sC]; exact bf⟩, ⟨nn4, by rw [sG]; exact bg⟩, fun hs t t0 t1 => ?_, fun hs t t0 t1 => ?_, fun hs t t0 t1 => ?_⟩
 ·rw [hpos (t + 1) (by omega) (by omega) (by omega)]
  show X.tkP 1 (t + 1) 0 = _
  have hp0 : (X.acct 1).pos 0 = sm Q ((k + 1 : Nat) : Int) := h.a0.2.2
  have hpt := (h.don (t + 1) (by omega) (by omega)).2.2
  have hS : 0 ≤ sm Q ((k + 1 : Nat) : Int) := sm_nonneg fun l _ _ => (hQ l).1
  have eS : sm Q ((k + 1 : Nat) : Int) = sm (fun t => Q (t + 1)) k := by rw [sm_shift Q k, hQ0, Int.zero_add]
  unfold HM.tkP
  rw [hp0]
  by_cases c : sm Q ((k + 1 : Nat) : Int) = 0
  ·rw [if_pos c, hpt]
   rw [c] at hs
   rw [hs.none t0 t1]
   omega
  ·rw [if_neg c, if_neg (by omega), hpt]
   have e1 : sgn (sm Q ((k + 1 : Nat) : Int)) = 1 := by
    rcases sgn_one (sm Q ((k + 1 : Nat) : Int)) with e | e
    ·exact e
    ·have := sgn_mul (sm Q ((k + 1 : Nat) : Int))
     rw [e] at this
     omega
   rw [e1, Int.one_mul, Int.one_mul]
   have hw : Shr (sm Q ((k + 1 : Nat) : Int)) X.mem (X.wt 1 0 1) (fun j => if j = 0 then 0 else os (j - 1)) := by
    rw [hm]
    refine (Shr.shift (W := Q) hS (fun i _ _ => (hQ i).1) hQ0 hs).congr (fun i i0 i1 => ?_) fun _ _ _ => rfl
    unfold HM.wt
    by_cases ci : i = 0
    ·rw [if_neg (fun hh => (hoth i0 i1).1 ((othP_oth X 1 i).1 hh) ci), ci, hQ0]
    ·rw [if_pos ((othP_oth X 1 i).2 ((hoth i0 i1).2 ci)), (h.don i (by omega) i1).2.2]
     have := hQ i
     omega
   rw [shF_eq hw (t + 1) (by omega) (by omega), if_neg (by omega), show t + 1 - 1 = t by omega]
   omega
 ·have hw := Shr.shift (W := C) nn3 (fun i _ _ => (hC i).1) hC0 hs
  rw [← hm] at hw
  rw [hf (t + 1) (by omega) (by omega) (by omega) C _ hw (fun l l0 l1 => eC l l0 (by omega)), (h.don (t + 1) (by omega) (by omega)).2.1]
  rw [if_neg (by omega), show t + 1 - 1 = t by omega]
 ·have hw := Shr.shift (W := fun t => if t = 0 then 0 else (X.ac t).cash) (out := og) (k := k) nn4 (fun i i0 i1 => by
   split
   ·exact Int.le_refl _
   ·have := hcash (t := i) (by omega) i1
    omega) rfl (hs.congr (fun i i0 _ => (if_neg (by omega)).symm) fun _ _ _ => rfl)
  rw [← hm] at hw
  rw [hg (t + 1) (by omega) (by omega) (by omega) _ _ hw (fun l l0 l1 => eG l l0 (by omega))]
  rw [if_neg (by omega), show t + 1 - 1 = t by omega]
end
end Go.Proofs.Ytfbbagnpdfafjaa
