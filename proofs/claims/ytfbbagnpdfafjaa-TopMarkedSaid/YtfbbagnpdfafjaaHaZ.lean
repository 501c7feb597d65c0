import Derived.Test.YtfbbagnpdfafjaaHaQ
import Derived.Test.YtfbbagnpdfafjaaHaT
set_option maxRecDepth 100000
namespace Go.Proofs.Ytfbbagnpdfafjaa
open Go.RowKit Go.Proofs
structure HB (j : Nat) (X : HM) : Prop where
 mem : 2 ≤ X.mem ∧ X.mem < 20
 mo : 1 ≤ X.mo ∧ X.mo ≤ 12
 k : X.k ≤ 64
 pr : ∀ m : Int, 0 ≤ m → m < X.mo → 1 ≤ X.pr m ∧ X.pr m ≤ 1000
 prz : ∀ m : Int, X.mo ≤ m → X.pr m = 0
 mv : ∀ i : Int, 0 ≤ i → i < X.k → Bd (X.mv i) 1000
 rate : 0 ≤ X.rate ∧ X.rate ≤ 1000
 cap : 0 ≤ X.cap ∧ X.cap ≤ 1000000000000
 hole : 0 ≤ X.hole ∧ X.hole ≤ j * 1000000000000000
 pos : ∀ i : Int, 0 ≤ i → i < X.mem → Bd (X.ac i).pos (100 * j)
 posz : ∀ i : Int, 0 ≤ i → i < X.mem → ∀ m : Int, X.mo ≤ m → (X.ac i).pos m = 0
 cash : ∀ i : Int, 0 ≤ i → i < X.mem → (X.ac i).cash.natAbs ≤ 10000000000000 * j
 fund : ∀ i : Int, 0 ≤ i → i < X.mem → 0 ≤ (X.ac i).fund ∧ (X.ac i).fund ≤ 10000000000000 * j
 n : X.n ≤ j
 Z : HZ X
theorem HB.hg {j : Nat} {X : HM} (h : HB j X) (hj : j ≤ 100) : HG X := by
 have h1 := h.mem
 have h2 := h.mo
 have h3 := h.hole
 refine ⟨by omega, by omega, fun m m0 m1 => ?_, h.k, fun i i0 i1 => (h.mv i i0 i1).mono (by decide), h.rate, h.cap, by omega, fun i i0 i1 => (h.pos i i0 i1).mono (by omega), fun i i0 i1 => by have := h.cash i i0 i1; omega, fun i i0 i1 => by have := h.fund i i0 i1; omega, by have := h.n; omega⟩
 by_cases c : m < X.mo
 ·have := h.pr m m0 c
  omega
 ·rw [h.prz m (by omega)]
  decide
theorem HB.mono {j k : Nat} {X : HM} (h : HB j X) (hj : j ≤ k) : HB k X :=
 ⟨h.mem, h.mo, h.k, h.pr, h.prz, h.mv, h.rate, h.cap, by have := h.hole; omega, fun i i0 i1 => (h.pos i i0 i1).mono (by omega), h.posz, fun i i0 i1 => by have := h.cash i i0 i1; omega, fun i i0 i1 => by have := h.fund i i0 i1; omega, by have := h.n; omega, h.Z⟩
theorem HB.next {j : Nat} {X : HM} (h : HB j X) : HB (j + 1) X := h.mono (Nat.le_succ j)
theorem HB.acs {j : Nat} {X : HM} (h : HB j X) (f : Int → HA) (hp : ∀ i : Int, 0 ≤ i → i < X.mem → Bd (f i).pos (100 * (j + 1)) ∧ (∀ m : Int, X.mo ≤ m → (f i).pos m = 0) ∧ (f i).cash.natAbs ≤ 10000000000000 * (j + 1) ∧ 0 ≤ (f i).fund ∧ (f i).fund ≤ 10000000000000 * ((j + 1 : Nat) : Int)) (hZ : HZ { X with ac := f }) : HB (j + 1) { X with ac := f } :=
 ⟨h.mem, h.mo, h.k, h.pr, h.prz, h.mv, h.rate, h.cap, h.next.hole, fun i i0 i1 => (hp i i0 i1).1, fun i i0 i1 => (hp i i0 i1).2.1, fun i i0 i1 => (hp i i0 i1).2.2.1, fun i i0 i1 => (hp i i0 i1).2.2.2, h.next.n, hZ⟩
theorem pos_at (f : Int → HA) (i : Int) (a : HA) (m : Int) : (fun j => (upd f i a j).pos m) = upd (fun j => (f j).pos m) i (a.pos m) := by
 funext j; unfold upd; split <;> rfl
theorem mon_at (f : Int → HA) (i : Int) (a : HA) : (fun j => (upd f i a j).cash + (upd f i a j).fund) = upd (fun j => (f j).cash + (f j).fund) i (a.cash + a.fund) := by
 funext j; unfold upd; split <;> rfl
theorem HZ.setA {X : HM} (h : HZ X) {i : Int} (hi : 1 ≤ i ∧ i ≤ X.mem) {a : HA} (hp : a.pos = (X.acct i).pos) (ho : a.out = false) : HZ (X.setA i a) := by
 refine ⟨fun m m0 m1 => ?_, fun j j0 j1 hj m m0 m1 => ?_, fun j j0 j1 hj => ?_⟩
 ·show sm (fun j => (upd X.ac (i - 1) a j).pos m) X.mem = 0
  rw [pos_at, hp, sm_upd _ _ _ (by omega) (by omega), h.zero m m0 m1]
  show 0 - (X.ac (i - 1)).pos m + (X.ac (i - 1)).pos m = 0
  omega
 ·change (upd X.ac (i - 1) a j).out = true at hj
  show (upd X.ac (i - 1) a j).pos m = 0
  by_cases e : j = i - 1
  ·rw [e, upd_same, ho] at hj
   cases hj
  ·rw [upd_ne _ _ e] at hj ⊢
   exact h.out j j0 j1 hj m m0 m1
 ·change (upd X.ac (i - 1) a j).out = true at hj
  show 0 ≤ (upd X.ac (i - 1) a j).cash
  by_cases e : j = i - 1
  ·rw [e, upd_same, ho] at hj
   cases hj
  ·rw [upd_ne _ _ e] at hj ⊢
   exact h.oc j j0 j1 hj
theorem HB.setA {j : Nat} {X : HM} (h : HB j X) {i : Int} (hi : 1 ≤ i ∧ i ≤ X.mem) {a : HA} (hp : a.pos = (X.acct i).pos) (ho : a.out = false) (hc : a.cash.natAbs ≤ 10000000000000 * (j + 1)) (hf : 0 ≤ a.fund ∧ a.fund ≤ 10000000000000 * ((j + 1 : Nat) : Int)) : HB (j + 1) (X.setA i a) :=
 h.acs (upd X.ac (i - 1) a) (fun l l0 l1 => by
  by_cases e : l = i - 1
  ·rw [e, upd_same, hp]
   exact ⟨(h.pos (i - 1) (by omega) (by omega)).mono (by omega), h.posz (i - 1) (by omega) (by omega), hc, hf⟩
  ·rw [upd_ne _ _ e]
   exact ⟨(h.pos l l0 l1).mono (by omega), h.posz l l0 l1, by have := h.cash l l0 l1; omega, by have := h.fund l l0 l1; omega⟩) (h.Z.setA hi hp ho)
theorem total_setA (X : HM) {i : Int} (hi : 1 ≤ i ∧ i ≤ X.mem) (a : HA) : (X.setA i a).total = X.total - ((X.acct i).cash + (X.acct i).fund) + (a.cash + a.fund) := by
 show X.cap - X.hole + sm (fun j => (upd X.ac (i - 1) a j).cash + (upd X.ac (i - 1) a j).fund) X.mem = X.cap - X.hole + sm (fun j => (X.ac j).cash + (X.ac j).fund) X.mem - ((X.ac (i - 1)).cash + (X.ac (i - 1)).fund) + (a.cash + a.fund)
 rw [mon_at, sm_upd _ _ _ (by omega) (by omega)]
 omega
theorem act_zero {X : HM} {i : Int} (h : X.act i = 0) : (1 ≤ i ∧ i ≤ X.mem) ∧ (X.acct i).out = false := by
 unfold HM.act at h
 split at h
 ·rename_i hi
  split at h
  ·cases h
  ·rename_i ho
   exact ⟨hi, by simpa using ho⟩
 ·cases h
theorem mny_zero {X : HM} {i a : Int} (h : X.mny i a = 0) : X.act i = 0 ∧ 1 ≤ a ∧ a ≤ 1000000000000 := by
 unfold HM.mny at h
 split at h
 ·exact absurd h ‹_›
 ·split at h
  ·exact ⟨by omega, ‹_›⟩
  ·cases h
theorem HB.deposit {j : Nat} {X : HM} (h : HB j X) (i a : Int) : HB (j + 1) (X.deposit i a) := by
 unfold HM.deposit
 split
 ·rename_i e
  obtain ⟨h1, a0, a1⟩ := mny_zero e
  obtain ⟨hi, ho⟩ := act_zero h1
  have hc := h.cash (i - 1) (by omega) (by omega)
  have hf := h.fund (i - 1) (by omega) (by omega)
  refine h.setA hi rfl ho ?_ ?_
  ·show ((X.ac (i - 1)).cash + a).natAbs ≤ _
   omega
  ·show 0 ≤ (X.ac (i - 1)).fund ∧ (X.ac (i - 1)).fund ≤ _
   omega
 ·exact h.next
theorem total_deposit (X : HM) (i a : Int) : (X.deposit i a).total = if X.mny i a = 0 then X.total + a else X.total := by
 unfold HM.deposit
 split
 ·rename_i e
  rw [total_setA X (act_zero (mny_zero e).1).1]
  dsimp only
  omega
 ·rfl
theorem par_zero {X : HM} {c : Ct} (h : X.par c = 0) : Par X c := by
 unfold HM.par at h
 split at h
 ·cases h
 ·rename_i h4
  split at h
  ·cases h
  ·rename_i h1
   split at h
   ·cases h
   ·rename_i h5
    unfold HM.no4 at h4
    unfold Ct.bad at h1
    have i1 : X.is c.b := Classical.byContradiction fun h => h4 (.inl h)
    have i2 : X.is c.s := Classical.byContradiction fun h => h4 (.inr (.inl h))
    have q1 : 1 ≤ c.q ∧ c.q ≤ 1000000 := Classical.byContradiction fun h => h1 (.inr (.inl h))
    have q2 : 1 ≤ c.p ∧ c.p ≤ 1000000 := Classical.byContradiction fun h => h1 (.inr (.inr h))
    refine ⟨i1, i2, by omega, fun h => h1 (.inl h), q1, q2, ?_, ?_⟩
    ·cases e : (X.acct c.b).out
     ·rfl
     ·exact absurd (.inl e) h5
    ·cases e : (X.acct c.s).out
     ·rfl
     ·exact absurd (.inr e) h5
theorem HB.two {j : Nat} {X : HM} (h : HB j X) {b s m q : Int} (hb : 1 ≤ b ∧ b ≤ X.mem) (hs : 1 ≤ s ∧ s ≤ X.mem) (hne : b ≠ s) (hm : 0 ≤ m ∧ m < X.mo) {A C : HA} (hA : A.pos = upd (X.acct b).pos m ((X.acct b).pos m + q)) (hC : C.pos = upd (X.acct s).pos m ((X.acct s).pos m - q))
  (hAo : A.out = false) (hCo : C.out = false) (hq1 : ((X.acct b).pos m + q).natAbs ≤ 100 * (j + 1)) (hq2 : ((X.acct s).pos m - q).natAbs ≤ 100 * (j + 1))
  (hAc : A.cash.natAbs ≤ 10000000000000 * (j + 1)) (hCc : C.cash.natAbs ≤ 10000000000000 * (j + 1)) (hAf : A.fund = (X.acct b).fund) (hCf : C.fund = (X.acct s).fund) : HB (j + 1) ((X.setA b A).setA s C) := by
 have hcong : ∀ {p : Int → Int} {x : Int}, Bd p (100 * j) → x.natAbs ≤ 100 * (j + 1) → Bd (upd p m x) (100 * (j + 1)) := fun hp hx => pos_upd hp (by omega) hx
 refine h.acs (upd (upd X.ac (b - 1) A) (s - 1) C) (fun l l0 l1 => ?_) ⟨fun m' m0 m1 => ?_, fun l l0 l1 hl m' m0 m1 => ?_, fun l l0 l1 hl => ?_⟩
 ·by_cases e : l = s - 1
  ·rw [e, upd_same, hC, hCf]
   have hf := h.fund (s - 1) (by omega) (by omega)
   refine ⟨hcong (h.pos (s - 1) (by omega) (by omega)) hq2, fun m' hm' => ?_, hCc, hf.1, ?_⟩
   ·rw [upd_ne _ _ (by omega)]
    exact h.posz (s - 1) (by omega) (by omega) m' hm'
   ·show (X.ac (s - 1)).fund ≤ _
    omega
  ·rw [upd_ne _ _ e]
   by_cases e2 : l = b - 1
   ·rw [e2, upd_same, hA, hAf]
    have hf := h.fund (b - 1) (by omega) (by omega)
    refine ⟨hcong (h.pos (b - 1) (by omega) (by omega)) hq1, fun m' hm' => ?_, hAc, hf.1, ?_⟩
    ·rw [upd_ne _ _ (by omega)]
     exact h.posz (b - 1) (by omega) (by omega) m' hm'
    ·show (X.ac (b - 1)).fund ≤ _
     omega
   ·rw [upd_ne _ _ e2]
    exact ⟨(h.pos l l0 l1).mono (by omega), h.posz l l0 l1, by have := h.cash l l0 l1; omega, by have := h.fund l l0 l1; omega⟩
 ·show sm (fun j => (upd (upd X.ac (b - 1) A) (s - 1) C j).pos m') X.mem = 0
  rw [pos_at, pos_at, sm_upd _ _ _ (by omega) (by omega), sm_upd _ _ _ (by omega) (by omega), h.Z.zero m' m0 m1, upd_ne _ _ (show s - 1 ≠ b - 1 by omega), hA, hC]
  show 0 - (X.ac (b - 1)).pos m' + upd (X.ac (b - 1)).pos m ((X.ac (b - 1)).pos m + q) m' - (X.ac (s - 1)).pos m' + upd (X.ac (s - 1)).pos m ((X.ac (s - 1)).pos m - q) m' = 0
  unfold upd
  split
  ·rename_i e
   rw [e]
   omega
  ·omega
 ·change (upd (upd X.ac (b - 1) A) (s - 1) C l).out = true at hl
  show (upd (upd X.ac (b - 1) A) (s - 1) C l).pos m' = 0
  by_cases e : l = s - 1
  ·rw [e, upd_same, hCo] at hl
   cases hl
  ·rw [upd_ne _ _ e] at hl ⊢
   by_cases e2 : l = b - 1
   ·rw [e2, upd_same, hAo] at hl
    cases hl
   ·rw [upd_ne _ _ e2] at hl ⊢
    exact h.Z.out l l0 l1 hl m' m0 m1
 ·change (upd (upd X.ac (b - 1) A) (s - 1) C l).out = true at hl
  show 0 ≤ (upd (upd X.ac (b - 1) A) (s - 1) C l).cash
  by_cases e : l = s - 1
  ·rw [e, upd_same, hCo] at hl
   cases hl
  ·rw [upd_ne _ _ e] at hl ⊢
   by_cases e2 : l = b - 1
   ·rw [e2, upd_same, hAo] at hl
    cases hl
   ·rw [upd_ne _ _ e2] at hl ⊢
    exact h.Z.oc l l0 l1 hl
theorem total_two (X : HM) {b s : Int} (hb : 1 ≤ b ∧ b ≤ X.mem) (hs : 1 ≤ s ∧ s ≤ X.mem) (hne : b ≠ s) (A C : HA) : ((X.setA b A).setA s C).total = X.total - ((X.acct b).cash + (X.acct b).fund) + (A.cash + A.fund) - ((X.acct s).cash + (X.acct s).fund) + (C.cash + C.fund) := by
 rw [total_setA (X.setA b A) (i := s) hs, total_setA X hb]
 have e : (X.setA b A).acct s = X.acct s := upd_ne _ _ (by omega)
 rw [e]
theorem HB.trade {j : Nat} {X : HM} (h : HB j X) (c : Ct) (hq : c.q ≤ 100) : HB (j + 1) (X.trade c) := by
 unfold HM.trade
 split
 ·rename_i e
  unfold HM.trd at e
  split at e
  ·exact absurd e ‹_›
  ·rename_i e2
   have hP := par_zero (X := X) (c := c) (by omega)
   have hPb := hP.b
   have hPs := hP.s
   have hPm := hP.m
   have hPq := hP.q
   have hPp := hP.p
   have hmo := h.mo
   have hpr := h.pr c.m hPm.1 hPm.2
   have hpb := h.pos (c.b - 1) (by omega) (by omega) c.m hPm.1 (by omega)
   have hps := h.pos (c.s - 1) (by omega) (by omega) c.m hPm.1 (by omega)
   have hcb := h.cash (c.b - 1) (by omega) (by omega)
   have hcs := h.cash (c.s - 1) (by omega) (by omega)
   have hdue := mulAbs (a := c.q) (b := X.pr c.m - c.p) (A := 100) (B := 1000000) (by omega) (by omega)
   have hdu : (X.due c).natAbs ≤ 100000000 := hdue
   have hH := h.two (b := c.b) (s := c.s) (m := c.m) (q := c.q) (A := X.newB c) (C := X.newS c) hPb hPs hP.ne hPm rfl rfl hP.bo hP.so (by show ((X.ac (c.b - 1)).pos c.m + c.q).natAbs ≤ _; omega) (by show ((X.ac (c.s - 1)).pos c.m - c.q).natAbs ≤ _; omega) (by show ((X.ac (c.b - 1)).cash + X.due c).natAbs ≤ _; omega) (by show ((X.ac (c.s - 1)).cash - X.due c).natAbs ≤ _; omega) rfl rfl
   exact ⟨hH.mem, hH.mo, hH.k, hH.pr, hH.prz, hH.mv, hH.rate, hH.cap, hH.hole, hH.pos, hH.posz, hH.cash, hH.fund, Nat.succ_le_succ h.n, ⟨hH.Z.zero, hH.Z.out, hH.Z.oc⟩⟩
 ·exact h.next
theorem total_trade (X : HM) (c : Ct) : (X.trade c).total = X.total := by
 unfold HM.trade
 split
 ·rename_i e
  unfold HM.trd at e
  split at e
  ·exact absurd e ‹_›
  ·have hP := par_zero (X := X) (c := c) (by omega)
   have := total_two X hP.b hP.s hP.ne (X.newB c) (X.newS c)
   refine Eq.trans (b := ((X.setA c.b (X.newB c)).setA c.s (X.newS c)).total) rfl ?_
   rw [this]
   show X.total - ((X.ac (c.b - 1)).cash + (X.ac (c.b - 1)).fund) + ((X.ac (c.b - 1)).cash + X.due c + (X.ac (c.b - 1)).fund) - ((X.ac (c.s - 1)).cash + (X.ac (c.s - 1)).fund) + ((X.ac (c.s - 1)).cash - X.due c + (X.ac (c.s - 1)).fund) = X.total
   omega
 ·rfl
theorem mrk_zero {X : HM} {m p : Int} (h : X.mrk m p = 0) : 0 ≤ m ∧ m < X.mo ∧ 1 ≤ p ∧ p ≤ 1000000 := by
 unfold HM.mrk at h
 split at h
 ·cases h
 ·split at h
  ·omega
  ·cases h
theorem HB.mark {j : Nat} {X : HM} (h : HB j X) (hj : j ≤ 100) (m p : Int) (hp : p ≤ 1000 ∨ 1000000 < p) : HB (j + 1) (X.mark m p) := by
 unfold HM.mark
 split
 ·rename_i e
  obtain ⟨m0, m1, p0, p1⟩ := mrk_zero e
  have hmo := h.mo
  have hpr := h.pr m m0 m1
  have hn := h.next
  refine ⟨h.mem, h.mo, h.k, fun m' m0' m1' => ?_, fun m' hm' => ?_, h.mv, h.rate, h.cap, hn.hole, hn.pos, h.posz, fun i i0 i1 => ?_, hn.fund, hn.n, ⟨h.Z.zero, h.Z.out, fun i i0 i1 ho => by show 0 ≤ (X.ac i).cash + (X.ac i).pos m * (p - X.pr m); rw [h.Z.out i i0 i1 ho m m0 (by omega), Int.zero_mul, Int.add_zero]; exact h.Z.oc i i0 i1 ho⟩⟩
  ·show 1 ≤ upd X.pr m p m' ∧ upd X.pr m p m' ≤ 1000
   have := h.pr m' m0' m1'
   unfold upd
   split <;> omega
  ·show upd X.pr m p m' = 0
   have hm'' : X.mo ≤ m' := hm'
   rw [upd_ne _ _ (by omega)]
   exact h.prz m' hm'
  ·show ((X.ac i).cash + (X.ac i).pos m * (p - X.pr m)).natAbs ≤ _
   have h1 := h.cash i i0 i1
   have h2 := h.pos i i0 i1 m m0 (by omega)
   have h3 := mulAbs (a := (X.ac i).pos m) (b := p - X.pr m) (A := 10000) (B := 1000) (by omega) (by omega)
   omega
 ·exact h.next
theorem total_mark {j : Nat} {X : HM} (h : HB j X) (m p : Int) : (X.mark m p).total = X.total := by
 unfold HM.mark
 split
 ·rename_i e
  obtain ⟨m0, m1, _, _⟩ := mrk_zero e
  have hmo := h.mo
  show X.cap - X.hole + sm (fun j => (X.ac j).cash + (X.ac j).pos m * (p - X.pr m) + (X.ac j).fund) X.mem = X.cap - X.hole + sm (fun j => (X.ac j).cash + (X.ac j).fund) X.mem
  have e1 : sm (fun j => (X.ac j).cash + (X.ac j).pos m * (p - X.pr m) + (X.ac j).fund) X.mem = sm (fun j => ((X.ac j).cash + (X.ac j).fund) + (p - X.pr m) * (X.ac j).pos m) X.mem := sm_congr fun i _ _ => by rw [Int.mul_comm]; omega
  rw [e1, sm_add, sm_mul, h.Z.zero m m0 (by omega), Int.mul_zero]
  omega
 ·rfl
end Go.Proofs.Ytfbbagnpdfafjaa
set_option maxRecDepth 100000
namespace Go.Proofs.Ytfbbagnpdfafjaa
open Go.RowKit Go.Proofs
theorem HB.new {mem mon : Int} {mn : Nat} {P : Int → Int} {F : Int → Int → Int} {rate cap : Int} (hm : 2 ≤ mem ∧ mem < 20) (hn : 1 ≤ mon ∧ mon ≤ 12) (hk : mn ≤ 64) (hP : ∀ m : Int, 0 ≤ m → m < mon → 1 ≤ P m ∧ P m ≤ 1000) (hF : ∀ i : Int, 0 ≤ i → i < mn → ∀ m : Int, 0 ≤ m → m < mon → (F i m).natAbs ≤ 1000) (hr : 0 ≤ rate ∧ rate ≤ 1000) (hc : 0 ≤ cap ∧ cap ≤ 1000000000000) : HB 0 (HM.new mem mon mn P F rate cap) := by
 refine ⟨by show 2 ≤ mem.toNat ∧ mem.toNat < 20; omega, hn, hk, fun m m0 m1 => ?_, fun m hm' => if_neg (by show ¬ m < mon; have : mon ≤ m := hm'; omega), fun i i0 i1 m m0 m1 => ?_, hr, hc, by show (0 : Int) ≤ 0 ∧ (0 : Int) ≤ _; omega, fun i i0 i1 m m0 m1 => Nat.zero_le _, fun i i0 i1 m hm' => rfl, fun i i0 i1 => Nat.zero_le _, fun i i0 i1 => ⟨Int.le_refl _, by show (0 : Int) ≤ _; omega⟩, Nat.le_refl _, fun m m0 m1 => ?_, fun j j0 j1 hj => Bool.noConfusion hj, fun j j0 j1 hj => Bool.noConfusion hj⟩
 ·have h1 := hP m m0 m1
  show 1 ≤ cutM mon P m ∧ cutM mon P m ≤ 1000
  unfold cutM
  rw [if_pos (show m < mon from m1)]
  exact h1
 ·show (cutM mon (F i) m).natAbs ≤ 1000
  unfold cutM
  split
  ·exact hF i i0 i1 m m0 ‹_›
  ·exact Nat.zero_le _
 ·show sm (fun _ => 0) ((mem.toNat : Nat) : Int) = 0
  rw [sm_const 0 (by omega), Int.mul_zero]
theorem total_new {mem mon : Int} {mn : Nat} {P : Int → Int} {F : Int → Int → Int} {rate cap : Int} : (HM.new mem mon mn P F rate cap).total = cap := by
 show cap - 0 + sm (fun _ => 0 + 0) ((mem.toNat : Nat) : Int) = cap
 rw [sm_const (0 + 0) (by omega)]
 omega
end Go.Proofs.Ytfbbagnpdfafjaa
set_option maxRecDepth 100000
namespace Go.Proofs.Ytfbbagnpdfafjaa
open Go.RowKit Go.Proofs
def sml (n most : Int) : Int := n % 18446744073709551616 % (most + 1)
theorem sml_rng (n : Int) {most : Int} (h : 0 ≤ most) : 0 ≤ sml n most ∧ sml n most ≤ most := by
 unfold sml
 have h1 := Int.emod_nonneg (n % 18446744073709551616) (show most + 1 ≠ 0 by omega)
 have h2 := Int.emod_lt_of_pos (n % 18446744073709551616) (show 0 < most + 1 by omega)
 omega
theorem u64_nn (x : Int) : 0 ≤ IntKind.u64.wrap x := by rw [IntKind.wrap_u64]; exact Int.emod_nonneg _ (by decide)
end Go.Proofs.Ytfbbagnpdfafjaa
set_option maxRecDepth 100000
namespace Go.Proofs.Ytfbbagnpdfafjaa
open Go.RowKit Go.Proofs
theorem newE_zero {mem mon : Int} {pn mn : Nat} {P : Int → Int} {L : Int → Nat} {F : Int → Int → Int} {rate cap : Int} (h1 : ¬ BadA mem mon rate cap) (h2 : ¬ BadB mon pn mn L) (h3 : ¬ BadC pn P) (h4 : ¬ BadD mn L F) : newE mem mon pn mn P L F rate cap = 0 := (if_neg h1).trans ((if_neg h2).trans (if_neg fun h => h.elim h3 h4))
theorem newGood (mem mon : Int) (pa ma : Option Addr) (pn pc mn mc : Nat) (rate cap : Int) (P : Int → Int) (L : Int → Nat) (F : Int → Int → Int) (B : Nat) (H : List (Option Blk)) (w0 w : World) (hO : Own B w0 w H) (hP : SrcI H pa pn P) (hT : TSrc H ma mn L F) (hm : 2 ≤ mem ∧ mem ≤ 64) (hn : 1 ≤ mon ∧ mon ≤ 12) (hr : 0 ≤ rate ∧ rate ≤ 1000) (hc : 0 ≤ cap ∧ cap ≤ 1000000000000) (hpn : (pn : Int) = mon) (hmn : mn ≤ 64) (hL : ∀ i : Int, 0 ≤ i → i < mn → (L i : Int) = mon) (hPr : ∀ i : Int, 0 ≤ i → i < pn → 1 ≤ P i ∧ P i ≤ 1000000) (hF : ∀ i : Int, 0 ≤ i → i < mn → ∀ m : Int, 0 ≤ m → m < L i → -1000000 ≤ F i m ∧ F i m ≤ 1000000) :
  Calls Try.prog 17 #[.agg (cfL mem mon pa pn pc ma mn mc rate cap).toArray] w fun e w' => ∃ hb, e = .returned (.tuple #[ptr hb, iv 0]) ∧ HAt B w0 w' hb (HM.new mem mon mn P F rate cap) [] H := by
 have h0 : newE mem mon pn mn P L F rate cap = 0 := newE_zero (fun h => h.elim (fun h => h hm) fun h => h.elim (fun h => h hn) fun h => h.elim (fun h => h hr) fun h => h hc) (fun h => h.elim (fun h => h hpn) fun h => h.elim (fun h => by omega) fun ⟨i, i0, i1, h⟩ => h (hL i i0 i1)) (fun ⟨i, i0, i1, h⟩ => h (hPr i i0 i1)) (fun ⟨i, i0, i1, m, m0, m1, h⟩ => h (hF i i0 i1 m m0 m1))
 exact (new_any mem mon pa ma pn pc mn mc rate cap P L F B H w0 w hO hP hT (by omega) (by omega) (fun i i0 i1 => by have := hL i i0 i1; omega)).mono fun e w' h => h.elim (fun h => absurd h0 h.1) (fun h => h.2)
theorem HAt.fr {B : Nat} {w0 w : World} {hb : Nat} {X : HM} {Pl R : List (Option Blk)} (h : HAt B w0 w hb X Pl R) : Own B w0 w R := by
 obtain ⟨K, N, hO, _⟩ := h
 exact hO.sub (.cons _ (.cons _ (List.sublist_append_right N R)))
end Go.Proofs.Ytfbbagnpdfafjaa
