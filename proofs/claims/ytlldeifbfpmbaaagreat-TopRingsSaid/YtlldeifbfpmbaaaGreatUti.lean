import Derived.Test.YtlldeifbfpmbaaaGreatLaw0
import Derived.Test.YtlldeifbfpmbaaaGreatNetR
import Derived.Test.YtlldeifbfpmbaaaGreatSet2
import Derived.Test.YtlldeifbfpmbaaaGreatGaH
import Derived.Test.YtlldeifbfpmbaaaGreatFcG
import Derived.Test.YtlldeifbfpmbaaaGreatFbG
import Derived.Test.YtlldeifbfpmbaaaGreatPrw
import Derived.Test.YtlldeifbfpmbaaaGreatLate
set_option maxRecDepth 100000
namespace Go.Proofs.YtlldeifbfpmbaaaGreat
open Go.RowKit Go.Proofs
def rD (n : Nat) (o : Int → Int) (a : Int) (dn : Int → Bool) : Int → Int → Int := fun x c => if (0 ≤ x ∧ x < n) ∧ dn x = true ∧ o x = c then a else 0
def rN (o : Int → Int) : Int → Bool := fun x => decide (o x ≠ x)
def rS (o : Int → Int) (a : Int) (dn : Int → Bool) : Int → Int := fun x => if dn x = true then a else 0
section
variable {n : Nat} {o : Int → Int} {a : Int}
theorem rD_valid (h1 : 1 ≤ n) (h2 : n ≤ 32) (a0 : 0 ≤ a) (a1 : a ≤ 1000000) : Valid n (rD n o a (rN o)) := by
 refine ⟨h1, h2, fun r c => ?_, fun r c => ?_, fun r => ?_⟩
 ·unfold rD; split <;> omega
 ·unfold rD; split <;> omega
 ·unfold rD rN
  rw [if_neg]
  rintro ⟨_, h, e⟩
  exact (of_decide_eq_true h) e
theorem rD_row (hr : ∀ i : Int, 0 ≤ i → i < n → 0 ≤ o i ∧ o i < n) {dn : Int → Bool} {v : Int} (v0 : 0 ≤ v) (v1 : v < n) : sm (rD n o a dn v) n = rS o a dn v := by
 have h := hr v v0 v1
 rw [sm_one1 (f := rD n o a dn v) (a := o v) h.1 h.2 fun i _ _ hne => if_neg fun e => hne e.2.2.symm]
 unfold rD rS
 by_cases c : dn v = true
 ·rw [if_pos ⟨⟨v0, v1⟩, c, rfl⟩, if_pos c]
 ·rw [if_neg fun e => c e.2.1, if_neg c]
theorem rD_total (hr : ∀ i : Int, 0 ≤ i → i < n → 0 ≤ o i ∧ o i < n) : total n (rD n o a (rN o)) = sm (rS o a (rN o)) n := sm_congr fun i i0 i1 => rD_row hr i0 i1
theorem rD_col (hr : ∀ i : Int, 0 ≤ i → i < n → 0 ≤ o i ∧ o i < n) (hi : ∀ i j : Int, 0 ≤ i → i < n → 0 ≤ j → j < n → o i = o j → i = j) {v : Int} (v0 : 0 ≤ v) (v1 : v < n) : sm (fun i => rD n o a (rN o) i v) n = rS o a (rN o) v := by
 obtain ⟨i, i0, i1, e⟩ := perm_surj (n := n) (by omega) hr hi v0 v1
 rw [sm_one1 (f := fun i => rD n o a (rN o) i v) (a := i) i0 i1 fun j j0 j1 hne => if_neg fun q => hne (hi j i j0 j1 i0 i1 (q.2.2.trans e.symm))]
 have hd : rN o i = true ↔ rN o v = true := by
  unfold rN
  rw [decide_eq_true_iff, decide_eq_true_iff]
  refine not_congr ⟨fun q => ?_, fun q => ?_⟩
  ·have : i = v := q.symm.trans e
   rw [← this]; exact q
  ·have : v = i := hi v i v0 v1 i0 i1 (q.trans e.symm)
   rw [← this]; exact q
 unfold rD rS
 by_cases c : rN o v = true
 ·rw [if_pos ⟨⟨i0, i1⟩, hd.2 c, e⟩, if_pos c]
 ·rw [if_neg fun q => c (hd.1 q.2.1), if_neg c]
section
variable (hr : ∀ i : Int, 0 ≤ i → i < n → 0 ≤ o i ∧ o i < n) (hi : ∀ i j : Int, 0 ≤ i → i < n → 0 ≤ j → j < n → o i = o j → i = j)
include hr hi
theorem rD_circ (a0 : 0 ≤ a) : Circ n (rD n o a (rN o)) (rD n o a (rN o)) :=
 ⟨fun i j _ _ _ _ => by unfold rD; split <;> omega, fun _ _ _ _ _ _ => Int.le_refl _, fun v v0 v1 => by
  show sm (rD n o a (rN o) v) n = _
  rw [rD_row hr v0 v1, rD_col hr hi v0 v1]⟩
theorem rD_cancel (a0 : 0 ≤ a) {x : Int → Int → Int} {rk : Int → Int} (hx : Circ n (rD n o a (rN o)) x) (hb : bnd n (rD n o a (rN o)) rk = total n x) : total n x = sm (rS o a (rN o)) n := by
 rw [← rD_total hr]
 refine Int.le_antisymm (sm_le fun i i0 i1 => sm_le fun j j0 j1 => hx.hi i j i0 i1 j0 j1) ?_
 rw [← hb]
 exact (rD_circ hr hi a0).weak rk
theorem rD_settle {K : Nat} (hK : Settled n (ps n (rD n o a (rN o))) K) : K = 0 := by
 refine Classical.byContradiction fun hne => ?_
 obtain ⟨i, i0, i1, h⟩ := hK.some 0 (by omega)
 have h2 : ps n (rD n o a (rN o)) i < 0 := h
 unfold ps at h2
 rw [rD_row hr i0 i1, rD_col hr hi i0 i1] at h2
 omega
theorem rD_fail (a0 : 1 ≤ a) {p : Int → Int} (hp : Clr n (rD n o a (rN o)) (fun _ => 0) (fun _ => true) p) : (flg n (rD n o a (rN o)) p).length = 0 := by
 have how : ∀ i : Int, 0 ≤ i → i < n → ow n (rD n o a (rN o)) i = rS o a (rN o) i := fun i i0 i1 => rD_row hr i0 i1
 have hS : ∀ i : Int, 0 ≤ rS o a (rN o) i := fun i => by unfold rS; split <;> omega
 have hrc : ∀ j : Int, 0 ≤ j → j < n → rcv n (rD n o a (rN o)) (ow n (rD n o a (rN o))) j = rS o a (rN o) j := fun j j0 j1 => by
  rw [← rD_col hr hi j0 j1]
  refine sm_congr fun i i0 i1 => ?_
  by_cases c : ow n (rD n o a (rN o)) i = 0
  ·rw [c, Int.zero_mul, Int.zero_ediv]
   rw [how i i0 i1] at c
   unfold rD
   rw [if_neg]
   ·rintro ⟨_, h, _⟩
    unfold rS at c
    rw [if_pos h] at c
    omega
  ·exact Int.mul_ediv_cancel_left _ c
 have htop := hp.top (ow n (rD n o a (rN o))) (fun i i0 i1 => ⟨by rw [how i i0 i1]; exact hS i, Int.le_refl _⟩) (fun i i0 i1 _ => by
  rw [hrc i i0 i1, how i i0 i1]
  have := hS i
  show rS o a (rN o) i ≤ min (rS o a (rN o) i) (0 + rS o a (rN o) i)
  omega)
 refine List.length_eq_zero_iff.2 (List.eq_nil_iff_forall_not_mem.2 fun x hx => ?_)
 obtain ⟨x0, x1, h⟩ := pk_mem.1 hx
 have h1 := of_decide_eq_true h
 have h2 := htop x x0 x1
 omega
end
theorem rD_step {dn : Int → Bool} {x : Int} (x0 : 0 ≤ x) (x1 : x < n) (hx : dn x = false) (r c : Int) : rD n o a (upd dn x true) r c = if r = x then upd (rD n o a dn x) (o x) a c else rD n o a dn r c := by
 by_cases e : r = x
 ·rw [if_pos e, e]
  by_cases d : c = o x
  ·rw [d, upd_same]
   unfold rD
   rw [upd_same, if_pos ⟨⟨x0, x1⟩, rfl, rfl⟩]
  ·rw [upd_ne _ _ d]
   unfold rD
   rw [if_neg fun q => d q.2.2.symm, if_neg fun q => d q.2.2.symm]
 ·rw [if_neg e]
  unfold rD
  rw [upd_ne _ _ e]
theorem rS_step {dn : Int → Bool} {x : Int} (x0 : 0 ≤ x) (x1 : x < n) (hx : dn x = false) : sm (rS o a (upd dn x true)) n = sm (rS o a dn) n + a := by
 have e : rS o a (upd dn x true) = upd (rS o a dn) x a := by
  funext y
  unfold rS
  by_cases d : y = x
  ·rw [d, upd_same, upd_same, if_pos rfl]
  ·rw [upd_ne _ _ d, upd_ne _ _ d]
 rw [e, sm_upd _ _ _ x0 x1]
 have : rS o a dn x = 0 := by unfold rS; rw [hx]; exact if_neg Bool.noConfusion
 omega
end
def Dn (nr : Nat) (L : Int → Nat) (R : Int → Int → Int) (r k : Int) (dn : Int → Bool) : Prop :=
 ∀ x : Int, dn x = true ↔ ∃ p q : Int, (0 ≤ p ∧ p < nr) ∧ (0 ≤ q ∧ q < L p) ∧ 1 < L p ∧ (p < r ∨ (p = r ∧ q < k)) ∧ R p q = x
theorem Dn.init {nr : Nat} {L : Int → Nat} {R : Int → Int → Int} : Dn nr L R 0 0 (fun _ => false) := fun x => ⟨fun h => Bool.noConfusion h, fun ⟨p, q, h1, h2, _, h3, _⟩ => by omega⟩
section
variable {W : Wish} {o : Int → Int} {nr : Nat} {L : Int → Nat} {R : Int → Int → Int} {r k : Int} {dn : Int → Bool}
theorem Dn.fresh (hR : RO W (fun _ => true) o nr L R) (h : Dn nr L R r k dn) (r0 : 0 ≤ r) (r1 : r < nr) (k0 : 0 ≤ k) (k1 : k < L r) : dn (R r k) = false := by
 rw [← Bool.not_eq_true, h]
 rintro ⟨p, q, hp, hq, _, h3, e⟩
 have := hR.dis p q r k hp.1 hp.2 hq.1 hq.2 r0 r1 k0 k1 e
 omega
theorem Dn.step (h : Dn nr L R r k dn) (r0 : 0 ≤ r) (r1 : r < nr) (k0 : 0 ≤ k) (k1 : k < L r) (h1 : 1 < L r) : Dn nr L R r (k + 1) (upd dn (R r k) true) := fun x => by
 by_cases e : x = R r k
 ·rw [e, upd_same]
  exact ⟨fun _ => ⟨r, k, ⟨r0, r1⟩, ⟨k0, k1⟩, h1, .inr ⟨rfl, by omega⟩, rfl⟩, fun _ => rfl⟩
 ·rw [upd_ne _ _ e, h x]
  constructor
  ·rintro ⟨p, q, a, b, c, d, f⟩; exact ⟨p, q, a, b, c, by omega, f⟩
  ·rintro ⟨p, q, a, b, c, d, f⟩
   refine ⟨p, q, a, b, c, ?_, f⟩
   rcases d with d | ⟨d1, d2⟩
   ·exact .inl d
   ·by_cases z : q = k
    ·rw [d1, z] at f; exact absurd f.symm e
    ·exact .inr ⟨d1, by omega⟩
theorem Dn.next (h : Dn nr L R r k dn) (k1 : k ≤ L r) (hx : ¬ (k < L r ∧ 1 < L r)) : Dn nr L R (r + 1) 0 dn := fun x => by
 rw [h x]
 constructor
 ·rintro ⟨p, q, a, b, c, d, f⟩; exact ⟨p, q, a, b, c, by omega, f⟩
 ·rintro ⟨p, q, a, b, c, d, f⟩
  refine ⟨p, q, a, b, c, ?_, f⟩
  by_cases z : p = r
  ·subst z
   exact .inr ⟨rfl, by omega⟩
  ·exact .inl (by omega)
theorem Dn.all (hR : RO W (fun _ => true) o nr L R) (h : Dn nr L R nr 0 dn) {x : Int} (x0 : 0 ≤ x) (x1 : x < W.n) : dn x = rN o x := by
 rw [Bool.eq_iff_iff, h x]
 unfold rN
 rw [decide_eq_true_iff]
 constructor
 ·rintro ⟨p, q, a, b, c, d, f⟩ e
  rw [← f, hR.cyc p q a.1 a.2 b.1 b.2] at e
  have hn := Wish.nxt_rng b.1 b.2
  have := hR.dis p _ p q a.1 a.2 hn.1 hn.2 a.1 a.2 b.1 b.2 e
  unfold Wish.nxt at this
  split at this <;> omega
 ·intro hne
  obtain ⟨p, q, hp, hq, e⟩ := hR.cov x x0 x1 rfl
  refine ⟨p, q, hp, hq, ?_, .inl hp.2, e⟩
  refine Classical.byContradiction fun c => hne ?_
  have hc := hR.cyc p q hp.1 hp.2 hq.1 hq.2
  rw [show Wish.nxt (L p) q = q by unfold Wish.nxt; split <;> omega, e] at hc
  exact hc
theorem nxt_mod {m k : Int} (k0 : 0 ≤ k) (k1 : k < m) : (k + 1) % m = Wish.nxt m k := by
 unfold Wish.nxt
 by_cases e : k + 1 = m
 ·rw [if_pos e, e, Int.emod_self]
 ·rw [if_neg e, Int.emod_eq_of_lt (by omega) (by omega)]
end
end Go.Proofs.YtlldeifbfpmbaaaGreat
set_option maxRecDepth 100000
namespace Go.Proofs.YtlldeifbfpmbaaaGreat
open Go.RowKit Go.Proofs
structure ClU (B : Nat) (w0 : World) (H : List (Option Blk)) (w : World) : Prop where
 own : Own B w0 w H
theorem IRow.capU {ao : Option Addr} {m cap : Nat} {E : TypeId} {n : Nat} {G : Int → Value} {c : Option Blk} (h : IRow (.slice ao m cap) E n G c) : n ≤ cap := by
 rcases h with ⟨h1, rfl, rfl⟩ | ⟨b, cap', g, h1, h2, h3, rfl, h5⟩
 ·omega
 ·cases h1; exact h2
theorem IRow.cellU {ao : Option Addr} {m cap b : Nat} {E : TypeId} {n : Nat} {G : Int → Value} {c : Option Blk} {B : Nat} {w0 w : World} {H : List (Option Blk)} (h : IRow (.slice ao m cap) E n G c) (ho : Own B w0 w H) (k : Nat) (hk : H[k]? = some c) (ha : ao = some ⟨b, 0, none⟩) {i : Int} (i0 : 0 ≤ i) (i1 : i < n) : w.cell? ⟨b, 0 + i.toNat, none⟩ = some (G i) := by
 obtain ⟨b', e, r⟩ := h.openS ho k hk
 have := e (by omega)
 rw [ha] at this
 cases this
 exact r i i0 i1
theorem Own.satU {B : Nat} {w0 w : World} {H : List (Option Blk)} (hO : Own B w0 w H) {ao : Option Addr} {s n : Nat} {G : Int → List Value} (h : SAt B w0 ao s n G) : SAt w.heap.size w ao s n G := (h.below hO.below).mono hO.size
end Go.Proofs.YtlldeifbfpmbaaaGreat
