import Derived.Test.YtfbbagnpdfafjaaHcY
import Derived.Test.YtfbbagnpdfafjaaEff
import Derived.Test.YtfbbagnpdfafjaaTab
import Derived.Test.YtfbbagnpdfafjaaChecked
import Derived.Test.YtfbbagnpdfafjaaRows
import Derived.ProofKit
import Derived.SizedLaws
import Derived.Deep.Modes
import Derived.Deep.Frames
import Derived.Deep.Matrix
import Derived.Carry
import Derived.Lib.SmallJoins
import Derived.Test.YtfbbagnpdfafjaaHcO
import Derived.Deep.Slices
set_option maxRecDepth 100000
namespace Go.Proofs.Ytfbbagnpdfafjaa
open Go.RowKit Go.Proofs
def one (m q j : Int) : Int := if j = m then q else 0
theorem upd_one (p : Int → Int) (m q : Int) : upd p m (p m + q) = fun j => p j + one m q j := by
 funext j
 unfold one upd
 split
 ·rename_i e; rw [e]
 ·omega
theorem span_one {m q : Int} {pr pr' : Int → Int} (h : pr m = pr' m) : spanF (one m q) pr = spanF (one m q) pr' := by
 unfold spanF
 refine sm_congr fun j _ _ => ?_
 unfold one
 split
 ·rename_i e; rw [e, h]
 ·simp
theorem marF_one {mv : Int → Int → Int} {k : Nat} {rate m q : Int} {pr pr' : Int → Int} (h : pr m = pr' m) : marF mv k rate (one m q) pr = marF mv k rate (one m q) pr' := by
 unfold marF
 rw [span_one h]
theorem marF_small {mv : Int → Int → Int} {k : Nat} {rate : Int} {p pr : Int → Int} (hmv : ∀ i : Int, 0 ≤ i → i < k → Bd (mv i) 1000) (hr : 0 ≤ rate ∧ rate ≤ 1000) (hp : Bd p 5100) (hpr : ∀ m : Int, 0 ≤ m → m < 12 → 0 ≤ pr m ∧ pr m ≤ 1000) : marF mv k rate p pr ≤ 200000000 := by
 have h1 := mxF_le (f := lossF mv p) (M := 61200000) (by decide) k fun i i0 i1 => by
  rw [lossF_eq]
  have h := sm_abs (f := fun m => p m * mv i m) (k := 12) 5100000 (by decide) fun m m0 m1 => mulAbs (A := 5100) (B := 1000) (hp m m0 m1) (hmv i i0 i1 m m0 m1)
  omega
 have h2 : 0 ≤ spanF p pr ∧ spanF p pr ≤ 61200000 := by
  unfold spanF
  have h0 : ∀ m : Int, 0 ≤ m → m < 12 → 0 ≤ max (p m) (-(p m)) * pr m ∧ max (p m) (-(p m)) * pr m ≤ 5100000 := fun m m0 m1 => by
   have h3 := hp m m0 m1
   have h4 := hpr m m0 m1
   have h5 : 0 ≤ max (p m) (-(p m)) ∧ max (p m) (-(p m)) ≤ 5100 := by omega
   exact ⟨Int.mul_nonneg h5.1 h4.1, by have := Int.mul_le_mul h5.2 h4.2 h4.1 (by decide : (0 : Int) ≤ 5100); omega⟩
  have h6 := sm_bound (f := fun m => max (p m) (-(p m)) * pr m) (k := 12) 5100000 (by decide) fun m m0 m1 => (h0 m m0 m1).2
  have h7 := sm_nonneg (f := fun m => max (p m) (-(p m)) * pr m) (k := 12) fun m m0 m1 => (h0 m m0 m1).1
  exact ⟨h7, by omega⟩
 have h3 : spanF p pr * rate ≤ 61200000 * 1000 := Int.mul_le_mul h2.2 hr.2 hr.1 (by decide)
 unfold marF
 omega
structure SpY (Y : HM) (m q : Int) : Prop where
 mem : 2 ≤ Y.mem
 hm : 0 ≤ m ∧ m < Y.mo
 mo : Y.mo ≤ 12
 hq : 1 ≤ q ∧ q ≤ 31
 pr : ∀ j : Int, 0 ≤ j → j < 12 → 0 ≤ Y.pr j ∧ Y.pr j ≤ 1000
 pm : 1 ≤ Y.pr m
 mv : ∀ i : Int, 0 ≤ i → i < Y.k → Bd (Y.mv i) 1000
 rate : 0 ≤ Y.rate ∧ Y.rate ≤ 1000
 o1 : (Y.acct 1).out = false
 o2 : (Y.acct 2).out = false
 p1 : Bd (Y.acct 1).pos 5000
 p2 : Bd (Y.acct 2).pos 5000
 c1 : 200000000 ≤ (Y.acct 1).cash
 c2 : 200000000 ≤ (Y.acct 2).cash
theorem spB (Y : HM) (m q : Int) : Y.newB ⟨1, 2, m, q, Y.pr m⟩ = { Y.acct 1 with pos := fun j => (Y.acct 1).pos j + one m q j } := by
 have hd : Y.due ⟨1, 2, m, q, Y.pr m⟩ = 0 := by show q * (Y.pr m - Y.pr m) = 0; rw [Int.sub_self, Int.mul_zero]
 unfold HM.newB
 rw [hd, Int.add_zero]
 show { Y.acct 1 with pos := upd (Y.acct 1).pos m ((Y.acct 1).pos m + q) } = _
 rw [upd_one]
theorem spS (Y : HM) (m q : Int) : Y.newS ⟨1, 2, m, q, Y.pr m⟩ = { Y.acct 2 with pos := fun j => (Y.acct 2).pos j + one m (-q) j } := by
 have hd : Y.due ⟨1, 2, m, q, Y.pr m⟩ = 0 := by show q * (Y.pr m - Y.pr m) = 0; rw [Int.sub_self, Int.mul_zero]
 unfold HM.newS
 rw [hd, Int.sub_zero]
 show { Y.acct 2 with pos := upd (Y.acct 2).pos m ((Y.acct 2).pos m - q) } = _
 rw [Int.sub_eq_add_neg, upd_one]
theorem spBd {m : Int} {p : Int → Int} (hp : Bd p 5000) {x : Int} (hx : x.natAbs ≤ 100) : Bd (fun j => p j + one m x j) 5100 := fun j j0 j1 => by
 have h1 := hp j j0 j1
 show (p j + one m x j).natAbs ≤ 5100
 unfold one
 split <;> omega
section
variable {Y : HM} {m q : Int} (h : SpY Y m q)
include h
theorem SpY.ok : Y.trd ⟨1, 2, m, q, Y.pr m⟩ = 0 := by
 have hm := h.hm
 have hmem := h.mem
 have hq := h.hq
 have hpm := h.pm
 have hmo := h.mo
 have hpr := h.pr m hm.1 (by omega)
 have h4 : ¬ Y.no4 ⟨1, 2, m, q, Y.pr m⟩ := by
  unfold HM.no4 HM.is
  dsimp only
  omega
 have h1 : ¬ Ct.bad ⟨1, 2, m, q, Y.pr m⟩ := by
  unfold Ct.bad
  dsimp only
  omega
 have hp : Y.par ⟨1, 2, m, q, Y.pr m⟩ = 0 := by
  unfold HM.par
  rw [if_neg h4, if_neg h1, if_neg]
  dsimp only
  rw [h.o1, h.o2]
  decide
 have hA : Y.alw (Y.acct 1) (Y.newB ⟨1, 2, m, q, Y.pr m⟩) := .inl (by
  rw [spB]
  have := marF_small (rate := Y.rate) (pr := Y.pr) h.mv h.rate (spBd (m := m) h.p1 (x := q) (by omega)) h.pr
  have hc := h.c1
  show marF Y.mv Y.k Y.rate (fun j => (Y.acct 1).pos j + one m q j) Y.pr ≤ (Y.acct 1).cash
  omega)
 have hB : Y.alw (Y.acct 2) (Y.newS ⟨1, 2, m, q, Y.pr m⟩) := .inl (by
  rw [spS]
  have := marF_small (rate := Y.rate) (pr := Y.pr) h.mv h.rate (spBd (m := m) h.p2 (x := -q) (by omega)) h.pr
  have hc := h.c2
  show marF Y.mv Y.k Y.rate (fun j => (Y.acct 2).pos j + one m (-q) j) Y.pr ≤ (Y.acct 2).cash
  omega)
 unfold HM.trd
 rw [if_neg (by rw [hp]; decide)]
 exact if_pos ⟨hA, hB⟩
theorem SpY.tr : Y.trade ⟨1, 2, m, q, Y.pr m⟩ = { (Y.setA 1 (Y.newB ⟨1, 2, m, q, Y.pr m⟩)).setA 2 (Y.newS ⟨1, 2, m, q, Y.pr m⟩) with n := Y.n + 1, ct := upd Y.ct Y.n ⟨1, 2, m, q, Y.pr m⟩ } := if_pos h.ok
theorem SpY.u0 : (Y.trade ⟨1, 2, m, q, Y.pr m⟩).need ((Y.trade ⟨1, 2, m, q, Y.pr m⟩).acct 1) = marF Y.mv Y.k Y.rate (fun j => (Y.acct 1).pos j + one m q j) Y.pr := by
 have e : (Y.trade ⟨1, 2, m, q, Y.pr m⟩).acct 1 = Y.newB ⟨1, 2, m, q, Y.pr m⟩ := by
  rw [h.tr]
  show upd (upd Y.ac (1 - 1) (Y.newB ⟨1, 2, m, q, Y.pr m⟩)) (2 - 1) (Y.newS ⟨1, 2, m, q, Y.pr m⟩) (1 - 1) = _
  rw [upd_ne _ _ (by decide), upd_same]
 rw [e, spB, h.tr]
 rfl
theorem SpY.v0 : (Y.trade ⟨1, 2, m, q, Y.pr m⟩).need ((Y.trade ⟨1, 2, m, q, Y.pr m⟩).acct 2) = marF Y.mv Y.k Y.rate (fun j => (Y.acct 2).pos j + one m (-q) j) Y.pr := by
 have e : (Y.trade ⟨1, 2, m, q, Y.pr m⟩).acct 2 = Y.newS ⟨1, 2, m, q, Y.pr m⟩ := by
  rw [h.tr]
  show upd (upd Y.ac (1 - 1) (Y.newB ⟨1, 2, m, q, Y.pr m⟩)) (2 - 1) (Y.newS ⟨1, 2, m, q, Y.pr m⟩) (2 - 1) = _
  rw [upd_same]
 rw [e, spS, h.tr]
 rfl
end
theorem spreads {Y Z : HM} {m q : Int} (h : SpY Y m q) (hz : SpY Z m q) (hk : Z.k = Y.k) (hmv : Z.mv = Y.mv) (hr : Z.rate = Y.rate) (hp : Z.pr m = Y.pr m) (hz1 : (Z.acct 1).pos = fun _ => 0) (hz2 : (Z.acct 2).pos = fun _ => 0) :
  (Y.trade ⟨1, 2, m, q, Y.pr m⟩).need ((Y.trade ⟨1, 2, m, q, Y.pr m⟩).acct 1) ≤ Y.need (Y.acct 1) + (Z.trade ⟨1, 2, m, q, Z.pr m⟩).need ((Z.trade ⟨1, 2, m, q, Z.pr m⟩).acct 1) ∧
  (Y.trade ⟨1, 2, m, q, Y.pr m⟩).need ((Y.trade ⟨1, 2, m, q, Y.pr m⟩).acct 2) ≤ Y.need (Y.acct 2) + (Z.trade ⟨1, 2, m, q, Z.pr m⟩).need ((Z.trade ⟨1, 2, m, q, Z.pr m⟩).acct 2) := by
 rw [h.u0, h.v0, hz.u0, hz.v0, hz1, hz2]
 have e : ∀ x : Int, (fun j => (fun _ => (0 : Int)) j + one m x j) = one m x := fun x => by funext j; exact Int.zero_add _
 rw [e, e, hk, hmv, hr, marF_one (pr := Z.pr) (pr' := Y.pr) (q := q) hp, marF_one (pr := Z.pr) (pr' := Y.pr) (q := -q) hp]
 exact ⟨marF_add h.rate.1 fun j j0 j1 => (h.pr j j0 j1).1, marF_add h.rate.1 fun j j0 j1 => (h.pr j j0 j1).1⟩
theorem mny_ok9 {X : HM} {i : Int} (ha : X.act i = 0) : X.mny i 1000000000 = 0 := by
 unfold HM.mny
 rw [if_neg (by rw [ha]; decide)]
 exact if_pos (by decide)
theorem dep_eq {X : HM} {i : Int} (ha : X.act i = 0) : X.deposit i 1000000000 = X.setA i { X.acct i with cash := (X.acct i).cash + 1000000000 } := if_pos (mny_ok9 ha)
theorem act_of {X : HM} {i : Int} (h1 : 1 ≤ i ∧ i ≤ X.mem) (ho : (X.acct i).out = false) : X.act i = 0 := by
 unfold HM.act
 rw [if_pos (show X.is i from h1), if_neg (by rw [ho]; decide)]
theorem act_same {X Y : HM} {j : Int} (hm : Y.mem = X.mem) (ho : (Y.acct j).out = (X.acct j).out) : Y.act j = X.act j := by
 unfold HM.act HM.is
 simp only [hm, ho]
theorem dep_act {X : HM} {i j : Int} (ha : X.act i = 0) : (X.deposit i 1000000000).act j = X.act j := by
 rw [dep_eq ha]
 refine act_same rfl ?_
 show (upd X.ac (i - 1) _ (j - 1)).out = (X.ac (j - 1)).out
 unfold upd
 split
 ·rename_i e; rw [e]; rfl
 ·rfl
structure Dep2 (X Y : HM) : Prop where
 mem : Y.mem = X.mem
 mo : Y.mo = X.mo
 pr : Y.pr = X.pr
 k : Y.k = X.k
 mv : Y.mv = X.mv
 rate : Y.rate = X.rate
 a1 : Y.acct 1 = { X.acct 1 with cash := (X.acct 1).cash + 1000000000 }
 a2 : Y.acct 2 = { X.acct 2 with cash := (X.acct 2).cash + 1000000000 }
theorem setA_oth {X : HM} {i j : Int} (a : HA) (h : j ≠ i) : (X.setA i a).acct j = X.acct j := upd_ne _ _ (by omega)
theorem dep2 {X : HM} (h1 : X.act 1 = 0) (h2 : X.act 2 = 0) : Dep2 X ((X.deposit 1 1000000000).deposit 2 1000000000) := by
 rw [dep_eq (X := X.deposit 1 1000000000) (by rw [dep_act h1]; exact h2), dep_eq h1]
 refine ⟨rfl, rfl, rfl, rfl, rfl, rfl, (setA_oth _ (by decide)).trans (setA_acct _ _ _), (setA_acct _ _ _).trans ?_⟩
 rw [setA_oth (X := X) (i := 1) (j := 2) _ (by decide)]
theorem Dep2.sp {j : Nat} {X Y : HM} {m q : Int} (hd : Dep2 X Y) (hX : HB j X) (hj : j ≤ 50) (hm : 0 ≤ m ∧ m < X.mo) (hq : 1 ≤ q ∧ q ≤ 31) (h1 : X.act 1 = 0) (h2 : X.act 2 = 0) (hc1 : -500000000 ≤ (X.acct 1).cash) (hc2 : -500000000 ≤ (X.acct 2).cash) : SpY Y m q := by
 have hmem := hX.mem
 have hmo := hX.mo
 have hprm := hX.pr m hm.1 hm.2
 refine ⟨by rw [hd.mem]; exact hmem.1, by rw [hd.mo]; exact hm, by rw [hd.mo]; exact hmo.2, hq, fun i i0 i1 => ?_, by rw [hd.pr]; exact hprm.1, by rw [hd.k, hd.mv]; exact hX.mv, by rw [hd.rate]; exact hX.rate, by rw [hd.a1]; exact (act_zero h1).2, by rw [hd.a2]; exact (act_zero h2).2, ?_, ?_, ?_, ?_⟩
 ·rw [hd.pr]
  by_cases c : i < X.mo
  ·have := hX.pr i i0 c
   omega
  ·rw [hX.prz i (by omega)]
   decide
 ·rw [hd.a1]
  exact (hX.pos (1 - 1) (by decide) (by omega)).mono (by omega)
 ·rw [hd.a2]
  exact (hX.pos (2 - 1) (by decide) (by omega)).mono (by omega)
 ·rw [hd.a1]
  show _ ≤ (X.acct 1).cash + 1000000000
  omega
 ·rw [hd.a2]
  show _ ≤ (X.acct 2).cash + 1000000000
  omega
end Go.Proofs.Ytfbbagnpdfafjaa
set_option maxRecDepth 100000
namespace Go.Proofs.Ytfbbagnpdfafjaa
open Go.Joins Go.ChangeShapes Go.WideShapes Go.ChangeAt Go.RowKit Go.Deep Go.Proofs
theorem Try.own : ownKnob Try.prog.godebug = none := by kernel_rfl
theorem Try.laidOut : laidOutB Try.prog = true := by kernel_rfl
theorem cell_lt {w : World} {b off : Nat} {v : Value} (h : w.cell? ⟨b, off, none⟩ = some v) : b < w.heap.size := by
 by_cases hb : b < w.heap.size
 ·exact hb
 ·have : w.heap[b]? = none := by simp; omega
  simp [World.cell?, this] at h
theorem iat_of {W : World} (a : Addr) (n : Nat) (f : Nat → Value) (h : ∀ i, i < n → W.cell? (a.add i) = some (f i)) : IAt W.heap.size W (some a) n (fun i => f i.toNat) := by
 by_cases hn : n = 0
 ·subst hn; exact IAt.nil _ _ _ _
 ·obtain ⟨b, o, s⟩ := a
  have hs : s = none := by simpa [Addr.add] using World.cell?_spot (h 0 (by omega))
  subst hs
  refine ⟨b, o, fun _ => rfl, fun _ => ?_, fun i hi => ?_⟩
  ·have := h 0 (by omega)
   rw [Addr.add_mid] at this
   exact cell_lt this
  ·have := h i hi
   rw [Addr.add_mid] at this
   exact this
theorem open_row0 {H : Type} {enc : TypeId × Value → H} {W : World} {v : Value} {y : DataW H × List MemPlace} {fuel : Nat} (hf : DataW.trod enc Try.prog W 0 (fun _ => true) true fuel 22 [v] = some y) :
  ∃ (ao : Option Addr) (n c : Nat) (g : Int → Int), v = .slice ao n c ∧ n ≤ c ∧ IAt W.heap.size W ao n (fun i => .int .i64 (g i)) := by
 rcases open_ints Try.underlying22 Try.underlying2 (by kernel_rfl) hf with ⟨hcs, hx⟩ | ⟨a, len, cap, zs, hcs, _, hl, hm, hz, hx, hc, _⟩
 ·have hv : v = .slice none 0 0 := by
   simpa using hcs
  exact ⟨none, 0, 0, fun _ => 0, hv, Nat.le_refl _, IAt.nil _ _ _ _⟩
 ·have hv : v = .slice (some a) len cap := by
   simpa using hcs
  simp only [if_true] at hz
  exact ⟨some a, len, cap, fun i => zs.getD i.toNat 0, hv, hl, iat_of a len (fun i => .int .i64 (zs.getD i 0)) (fun i hi => hc i (by omega))⟩
end Go.Proofs.Ytfbbagnpdfafjaa
set_option maxRecDepth 100000
namespace Go.Proofs.Ytfbbagnpdfafjaa
open Go.Joins Go.ChangeShapes Go.WideShapes Go.ChangeAt Go.RowKit Go.Deep Go.Proofs
def HTab (B : Nat) (w : World) (ao : Option Addr) (n : Nat) (L : Int → Nat) (F : Int → Int → Int) : Prop :=
 ∃ (A : Int → Option Addr) (C : Int → Nat), IAt B w ao n (fun r => .slice (A r) (L r) (C r)) ∧ (∀ r : Int, 0 ≤ r → r < n → L r ≤ C r) ∧ ∀ r : Int, 0 ≤ r → r < n → IAt B w (A r) (L r) (fun c => iv (F r c))
theorem HTab.tab {B : Nat} {w : World} {ao : Option Addr} {n : Nat} {L : Int → Nat} {F : Int → Int → Int} (h : HTab B w ao n L F) : ITab B w ao n L (fun r c => iv (F r c)) := by
 obtain ⟨A, C, h1, _, h2⟩ := h
 exact ⟨A, C, h1, h2⟩
theorem open_htab0 {H : Type} {enc : TypeId × Value → H} {W : World} {v : Value} {y : DataW H × List MemPlace} {fuel : Nat} (hf : DataW.trod enc Try.prog W 0 (fun _ => true) true fuel 23 [v] = some y) :
  ∃ (ao : Option Addr) (G Gc : Nat) (L : Int → Nat) (D : Int → Int → Int), v = .slice ao G Gc ∧ G ≤ Gc ∧ HTab W.heap.size W ao G L D := by
 rcases open_int_rows Try.underlying23 Try.underlying22 Try.underlying2 (by kernel_rfl) (by kernel_rfl) hf with ⟨hcs, hx⟩ | ⟨a, len, cap, A, L, C, Z, hcs, _, hl, hm, hx, hrows⟩
 ·have hv : v = .slice none 0 0 := by
   simpa using hcs
  exact ⟨none, 0, 0, fun _ => 0, fun _ _ => 0, hv, Nat.le_refl _, fun _ => none, fun _ => 0, IAt.nil _ _ _ _, fun r h0 h1 => by omega, fun r h0 h1 => by omega⟩
 ·have hv : v = .slice (some a) len cap := by
   simpa using hcs
  refine ⟨some a, len, cap, fun r => L r.toNat, fun r c => (Z r.toNat).getD c.toNat 0, hv, hl, fun r => A r.toNat, fun r => C r.toNat, iat_of a len (fun r => .slice (A r) (L r) (C r)) (fun i hi => (hrows i (by omega)).1), fun r h0 h1 => (hrows r.toNat (by omega)).2.1, fun r h0 h1 => ?_⟩
  obtain ⟨_, h1', _, _, _, h3, h4⟩ := hrows r.toNat (by omega)
  dsimp only
  cases hA : A r.toNat with
  | none =>
   rw [show L r.toNat = 0 by have := h3 hA; omega]
   exact IAt.nil _ _ _ _
  | some a' =>
   exact iat_of a' (L r.toNat) (fun c => .int .i64 ((Z r.toNat).getD c 0)) (fun i hi => (h4 a' hA).2 i (by omega))
theorem list6 {l : List Value} (h : l.length = 6) : ∃ a b c d e f, l = [a, b, c, d, e, f] := by
 match l, h with
 | [a, b, c, d, e, f], _ => exact ⟨a, b, c, d, e, f, rfl⟩
theorem open_hcfg {H : Type} {enc : TypeId × Value → H} {W : World} {v : Value} {d : DataW H} {ps : List MemPlace} {r : Reach} {b0 : Nat} (hval : Value.okWide Try.prog W r b0 25 v) (h : DataW.Trod enc Try.prog W 0 (fun _ => true) true 25 v d ps) :
  ∃ (mm mn : Int) (pa : Option Addr) (pn pc : Nat) (P : Int → Int) (ma : Option Addr) (mk mc : Nat) (L : Int → Nat) (F : Int → Int → Int) (rt cp : Int), v = .agg (cfL mm mn pa pn pc ma mk mc rt cp).toArray ∧ pn ≤ pc ∧ IAt W.heap.size W pa pn (fun i => iv (P i)) ∧ HTab W.heap.size W ma mk L F := by
 obtain ⟨cs, rfl, hsz⟩ := okWide_struct Try.underlying25 hval
 have hc6 : Try.prog.cellsOf 25 = 6 := by kernel_rfl
 obtain ⟨v0, v1, v2, v3, v4, v5, e6⟩ := list6 (l := cs.toList) (by simpa using hsz.trans hc6)
 have ecs : cs = [v0, v1, v2, v3, v4, v5].toArray := by rw [← e6]
 subst ecs
 obtain ⟨fuel, hf⟩ := h
 replace hf : DataW.trod enc Try.prog W 0 (fun _ => true) true fuel 25 [v0, v1, v2, v3, v4, v5] = some (d, ps) := by simpa [Value.cells] using hf
 obtain ⟨xs, k, _, _, _, hxl, hf⟩ := DataW.trod_struct Try.underlying25 hf
 have ci : Try.prog.cellsOf 3 = 1 := by kernel_rfl
 have cl : Try.prog.cellsOf 2 = 1 := by kernel_rfl
 have cs1 : Try.prog.cellsOf 22 = 1 := by kernel_rfl
 have cs2 : Try.prog.cellsOf 23 = 1 := by kernel_rfl
 match xs, hxl with
 | [x0, x1, x2, x3, x4, x5], _ =>
  have g0 := hf 0 _ rfl
  have g1 := hf 1 _ rfl
  have g2 := hf 2 _ rfl
  have g3 := hf 3 _ rfl
  have g4 := hf 4 _ rfl
  have g5 := hf 5 _ rfl
  simp [ci, cl, cs1, cs2] at g0 g1 g2 g3 g4 g5
  obtain ⟨z0, e0, _⟩ := DataW.trod_int Try.underlying3 g0
  obtain ⟨z1, e1, _⟩ := DataW.trod_int Try.underlying3 g1
  obtain ⟨pa, pn, pc, P, rfl, hpc, hP⟩ := open_row0 g2
  obtain ⟨ma, mk, mc, L, F, rfl, _, hF⟩ := open_htab0 g3
  obtain ⟨z4, e4, _⟩ := DataW.trod_int Try.underlying2 g4
  obtain ⟨z5, e5, _⟩ := DataW.trod_int Try.underlying2 g5
  simp only [List.cons.injEq, and_true] at e0 e1 e4 e5
  subst e0; subst e1; subst e4; subst e5
  exact ⟨z0, z1, pa, pn, pc, P, ma, mk, mc, L, F, z4, z5, rfl, hpc, hP, hF⟩
theorem sat_ofH {W : World} (a : Addr) (s n : Nat) (G : Int → List Value) (hs : 0 < s) (h : ∀ i, i < n → ∀ j, j < s → W.cell? (a.add (i * s + j)) = some ((G (i : Int)).getD j undef)) : SAt W.heap.size W (some a) s n G := by
 by_cases hn : n = 0
 ·subst hn
  have := RAt.nil W.heap.size W (some a) (fun j => (G ((j / s : Nat) : Int)).getD (j % s) undef)
  rw [← Nat.zero_mul s] at this
  exact this
 ·obtain ⟨b, o, sp⟩ := a
  have hsp : sp = none := by simpa [Addr.add] using World.cell?_spot (h 0 (by omega) 0 hs)
  subst hsp
  refine ⟨b, o, fun _ => rfl, fun _ => ?_, fun j hj => ?_⟩
  ·have := h 0 (by omega) 0 hs
   rw [Addr.add_mid] at this
   exact cell_lt this
  ·have h1 : j / s < n := Nat.div_lt_of_lt_mul (by rw [Nat.mul_comm]; exact hj)
   have := h (j / s) h1 (j % s) (Nat.mod_lt _ hs)
   rw [Addr.add_mid] at this
   have hdm := Nat.div_add_mod j s
   rw [Nat.mul_comm] at hdm
   rw [hdm] at this
   exact this
theorem list7 {l : List Value} (h : l.length = 7) : ∃ a b c d e f g, l = [a, b, c, d, e, f, g] := by
 match l, h with
 | [a, b, c, d, e, f, g], _ => exact ⟨a, b, c, d, e, f, g, rfl⟩
structure HAct where
 k : Int
 a : Int
 b : Int
 m : Int
 q : Int
 p : Int
 n : Int
instance : Inhabited HAct := ⟨⟨0, 0, 0, 0, 0, 0, 0⟩⟩
def HAct.l (x : HAct) : List Value := actL x.k x.a x.b x.m x.q x.p x.n
theorem open_hact {H : Type} {enc : TypeId × Value → H} {W : World} {n : Nat} {l : List Value} (hl : l.length = 7) {y : DataW H × List MemPlace} (h : DataW.trod enc Try.prog W 0 (fun _ => true) true n 28 l = some y) : ∃ x : HAct, l = x.l := by
 obtain ⟨v0, v1, v2, v3, v4, v5, v6, rfl⟩ := list7 hl
 obtain ⟨xs, k, _, _, _, hxl, hf⟩ := DataW.trod_struct Try.underlying28 h
 have ci : Try.prog.cellsOf 3 = 1 := by kernel_rfl
 have cl : Try.prog.cellsOf 2 = 1 := by kernel_rfl
 match xs, hxl with
 | [x0, x1, x2, x3, x4, x5, x6], _ =>
  have g0 := hf 0 _ rfl
  have g1 := hf 1 _ rfl
  have g2 := hf 2 _ rfl
  have g3 := hf 3 _ rfl
  have g4 := hf 4 _ rfl
  have g5 := hf 5 _ rfl
  have g6 := hf 6 _ rfl
  simp [ci, cl] at g0 g1 g2 g3 g4 g5 g6
  obtain ⟨z0, e0, _⟩ := DataW.trod_int Try.underlying3 g0
  obtain ⟨z1, e1, _⟩ := DataW.trod_int Try.underlying3 g1
  obtain ⟨z2, e2, _⟩ := DataW.trod_int Try.underlying3 g2
  obtain ⟨z3, e3, _⟩ := DataW.trod_int Try.underlying3 g3
  obtain ⟨z4, e4, _⟩ := DataW.trod_int Try.underlying2 g4
  obtain ⟨z5, e5, _⟩ := DataW.trod_int Try.underlying2 g5
  obtain ⟨z6, e6, _⟩ := DataW.trod_int Try.underlying2 g6
  simp only [List.cons.injEq, and_true] at e0 e1 e2 e3 e4 e5 e6
  subst e0; subst e1; subst e2; subst e3; subst e4; subst e5; subst e6
  exact ⟨⟨z0, z1, z2, z3, z4, z5, z6⟩, rfl⟩
def HActs.of (f : Nat → HAct) : HActs := ⟨fun i => (f i.toNat).k, fun i => (f i.toNat).a, fun i => (f i.toNat).b, fun i => (f i.toNat).m, fun i => (f i.toNat).q, fun i => (f i.toNat).p, fun i => (f i.toNat).n⟩
theorem open_hacts {H : Type} {enc : TypeId × Value → H} {W : World} {v : Value} {d : DataW H} {ps : List MemPlace} (h : DataW.Trod enc Try.prog W 0 (fun _ => true) true 26 v d ps) (hs : ∃ a l c, v = .slice a l c) :
  ∃ (ao : Option Addr) (n c : Nat) (S : HActs), v = .slice ao n c ∧ SAt W.heap.size W ao 7 n S.l := by
 obtain ⟨fuel, hf⟩ := h
 obtain ⟨sa, sl, sc, rfl⟩ := hs
 rcases open_slice Try.underlying26 hf with ⟨hcs, _⟩ | ⟨a, len, cap, m, n, D, Pl, hcs, _, hl, _, hm, _, hx⟩
 ·have hv : Value.slice sa sl sc = .slice none 0 0 := by simpa [Value.cells] using hcs
  rw [hv]
  exact ⟨none, 0, 0, .of fun _ => default, rfl, SAt.nil _ _ _ _ _⟩
 ·have hv : Value.slice sa sl sc = .slice (some a) len cap := by simpa [Value.cells] using hcs
  rw [hv]
  have hlm : len ≤ m := by rw [hm]; simp; omega
  have each : ∀ i, i < len → ∃ q : HAct, ∀ j, j < 7 → W.cell? (a.add (i * 7 + j)) = some (q.l.getD j undef) := by
   intro i hi
   obtain ⟨cs', h1, h2⟩ := hx i (by omega)
   have ce : Try.prog.cellsOf 28 = 7 := by kernel_rfl
   rw [ce] at h1
   obtain ⟨_, hlen, hcell⟩ := World.cells?_some h1
   obtain ⟨q, rfl⟩ := open_hact hlen h2
   refine ⟨q, fun j hj => ?_⟩
   have hc := hcell j hj
   rw [add_add] at hc
   rw [hc]
   have : j < q.l.length := by rw [hlen]; exact hj
   rw [List.getD_eq_getElem?_getD, List.getElem?_eq_getElem this]
   rfl
  obtain ⟨q, hq⟩ := choose_lt each
  refine ⟨some a, len, cap, .of q, rfl, sat_ofH a 7 len _ (by decide) fun i hi j hj => ?_⟩
  exact hq i hi j hj
end Go.Proofs.Ytfbbagnpdfafjaa
