import Derived.Test.YtijffdhailddoaaSet0
import Derived.Test.YtijffdhailddoaaSgE
set_option maxRecDepth 100000
namespace Go.Proofs.Ytijffdhailddoaa
open Go.RowKit Go.Proofs
noncomputable def gotT (n : Nat) (p : Int → Int) (i : Int) (k : Int) : Int := sm (fun j => if getter n (stP n p j.toNat) = i then moved n (stP n p j.toNat) else 0) k
noncomputable def paidT (n : Nat) (p : Int → Int) (i : Int) (k : Int) : Int := sm (fun j => if payer n (stP n p j.toNat) = i then moved n (stP n p j.toNat) else 0) k
theorem stP_form {n : Nat} {p : Int → Int} (hs : sm p n = 0) {K : Nat} (h : Settled n p K) : ∀ k : Nat, k ≤ K → ∀ i : Int, 0 ≤ i → i < n →
  stP n p k i = p i + paidT n p i k - gotT n p i k ∧ (0 ≤ p i → paidT n p i k = 0 ∧ 0 ≤ stP n p k i) ∧ (p i ≤ 0 → gotT n p i k = 0 ∧ stP n p k i ≤ 0)
 | 0, _, i, _, _ => by
  have e1 : gotT n p i (0 : Nat) = 0 := sm_zero _
  have e2 : paidT n p i (0 : Nat) = 0 := sm_zero _
  rw [e1, e2]
  have e3 : stP n p 0 i = p i := rfl
  rw [e3]
  exact ⟨by omega, fun h => ⟨rfl, h⟩, fun h => ⟨rfl, h⟩⟩
 | k + 1, hk, i, i0, i1 => by
  obtain ⟨g1, g2, g3⟩ := stP_form hs h k (by omega) i i0 i1
  have hsm := stP_sum hs k fun j hj => h.some j (by omega)
  obtain ⟨a, b, ha, hb, e1, e2⟩ := step_ok hsm (h.some k (by omega))
  have hmv : moved n (stP n p k) = min (-(stP n p k a)) (stP n p k b) := by unfold moved; rw [e1, e2]
  have hne : a ≠ b := fun e => by have := ha.2.1; have := hb.2.1; rw [e] at *; omega
  have hst : stP n p (k + 1) i = if i = a then stP n p k a + moved n (stP n p k) else if i = b then stP n p k b - moved n (stP n p k) else stP n p k i := by
   show nxt n (stP n p k) i = _
   unfold nxt
   rw [e1, e2]
   exact tfr_at hne i
  have eg : gotT n p i ((k + 1 : Nat) : Int) = gotT n p i k + (if b = i then moved n (stP n p k) else 0) := by
   have := sm_succ (fun j => if getter n (stP n p j.toNat) = i then moved n (stP n p j.toNat) else 0) (k := (k : Int)) (by omega)
   unfold gotT
   rw [show ((k + 1 : Nat) : Int) = (k : Int) + 1 by omega, this, Int.toNat_natCast, e2]
  have ep : paidT n p i ((k + 1 : Nat) : Int) = paidT n p i k + (if a = i then moved n (stP n p k) else 0) := by
   have := sm_succ (fun j => if payer n (stP n p j.toNat) = i then moved n (stP n p j.toNat) else 0) (k := (k : Int)) (by omega)
   unfold paidT
   rw [show ((k + 1 : Nat) : Int) = (k : Int) + 1 by omega, this, Int.toNat_natCast, e1]
  have ha1 := ha.2.1
  have hb1 := hb.2.1
  rw [hst, eg, ep]
  by_cases qa : i = a
  ·subst qa
   rw [if_pos rfl, if_pos rfl, if_neg (fun e => hne e.symm)]
   refine ⟨by omega, fun hp => ?_, fun hp => ?_⟩
   ·have := (g2 hp).2; omega
   ·have := g3 hp; omega
  ·have qa' : ¬ a = i := fun e => qa e.symm
   rw [if_neg qa, if_neg qa']
   by_cases qb : i = b
   ·subst qb
    rw [if_pos rfl, if_pos rfl]
    refine ⟨by omega, fun hp => ?_, fun hp => ?_⟩
    ·have := g2 hp; omega
    ·have := (g3 hp).2; omega
   ·have qb' : ¬ b = i := fun e => qb e.symm
    rw [if_neg qb, if_neg qb']
    refine ⟨by omega, fun hp => ?_, fun hp => ?_⟩
    ·have := g2 hp; omega
    ·have := g3 hp; omega
theorem settled_paid {n : Nat} {p : Int → Int} (hs : sm p n = 0) {K : Nat} (h : Settled n p K) {i : Int} (i0 : 0 ≤ i) (i1 : i < n) : gotT n p i K - paidT n p i K = p i ∧ paidT n p i K = max 0 (-(p i)) := by
 obtain ⟨g1, g2, g3⟩ := stP_form hs h K (Nat.le_refl _) i i0 i1
 have hz : stP n p K i = 0 := all_zero (stP_sum hs K fun j hj => h.some j hj) h.none i i0 i1
 rw [hz] at g1
 by_cases hp : 0 ≤ p i
 ·have := (g2 hp).1; omega
 ·have := (g3 (by omega)).1; omega
end Go.Proofs.Ytijffdhailddoaa
set_option maxRecDepth 100000
namespace Go.Proofs.Ytijffdhailddoaa
open Go.RowKit Go.Proofs
noncomputable def dealT (n : Nat) (p : Int → Int) (k : Nat) : Dl := ⟨Proofs.Ytijffdhailddoaa.payer n (stP n p k) + 1, Proofs.Ytijffdhailddoaa.getter n (stP n p k) + 1, moved n (stP n p k), 0⟩
noncomputable def dealsT (n : Nat) (p : Int → Int) (k : Nat) : List Dl := (List.range k).map (dealT n p)
theorem dealsT_succ (n : Nat) (p : Int → Int) (k : Nat) : dealsT n p (k + 1) = dealsT n p k ++ [dealT n p k] := by unfold dealsT; rw [List.range_succ, List.map_append]; rfl
theorem dealsT_len (n : Nat) (p : Int → Int) (k : Nat) : (dealsT n p k).length = k := by simp [dealsT]
theorem deal_at {X : MW} {n : Nat} {p : Int → Int} {k : Nat} (h : X.deals = dealsT n p k) {j : Int} (j0 : 0 ≤ j) (j1 : j < k) : X.deal (j + 1) = dealT n p j.toNat := by
 unfold MW.deal
 rw [h, Int.add_sub_cancel]
 unfold dealsT
 rw [List.getD_eq_getElem?_getD, List.getElem?_map, List.getElem?_range (show j.toNat < k by omega)]
 rfl
theorem owes_T {X : MW} {n : Nat} {p : Int → Int} {k : Nat} (h : X.deals = dealsT n p k) (i : Int) : owes X i = paidT n p i k := by
 unfold owes paidT
 rw [h, dealsT_len]
 refine sm_congr fun j j0 j1 => ?_
 have e := deal_at h j0 j1
 have e1 : X.payer 1 (j + 1) = Proofs.Ytijffdhailddoaa.payer n (stP n p j.toNat) := by
  unfold MW.payer
  rw [if_pos rfl, e]
  show _ + 1 - 1 = _
  omega
 have e2 : X.amount 1 (j + 1) = moved n (stP n p j.toNat) := by
  unfold MW.amount
  rw [if_pos rfl, e]
  rfl
 rw [e1, e2]
theorem goods_T {X : MW} {n : Nat} {p : Int → Int} {k : Nat} (h : X.deals = dealsT n p k) (d : Int) : X.amount 2 d = 0 := by
 unfold MW.amount MW.deal
 rw [if_neg (by decide), h]
 unfold dealsT
 rw [List.getD_eq_getElem?_getD, List.getElem?_map]
 cases (List.range k)[(d - 1).toNat]? <;> rfl
theorem paidT_le {n : Nat} {p : Int → Int} (hs : sm p n = 0) {K : Nat} (h : Settled n p K) (i : Int) : ∀ k : Nat, k ≤ K → paidT n p i k ≤ paidT n p i K := fun k hk => by
 obtain ⟨j, rfl⟩ : ∃ j, K = k + j := ⟨K - k, by omega⟩
 have step : ∀ a : Nat, a < k + j → paidT n p i a ≤ paidT n p i ((a + 1 : Nat) : Int) := fun a ha => by
  have := sm_succ (fun j => if Proofs.Ytijffdhailddoaa.payer n (stP n p j.toNat) = i then moved n (stP n p j.toNat) else 0) (k := (a : Int)) (by omega)
  unfold paidT
  rw [show ((a + 1 : Nat) : Int) = (a : Int) + 1 by omega, this, Int.toNat_natCast]
  have hm := (h.amount hs ha).1
  split <;> omega
 have all : ∀ b : Nat, b ≤ j → paidT n p i k ≤ paidT n p i ((k + b : Nat) : Int) := fun b => by
  induction b with
  | zero => intro _; exact Int.le_refl _
  | succ b ih =>
   intro hb
   have := step (k + b) (by omega)
   exact Int.le_trans (ih (by omega)) this
 exact all j (Nat.le_refl _)
structure Begun (n : Nat) (p : Int → Int) (pat : Int) (f1 f2 : List Int) (k : Nat) (X : MW) : Prop where
 well : Well X
 cf : cfg X = ((n : Int), pat, dealsT n p k, f1, f2)
theorem Begun.deals {n : Nat} {p : Int → Int} {pat : Int} {f1 f2 : List Int} {k : Nat} {X : MW} (h : Begun n p pat f1 f2 k X) : X.deals = dealsT n p k := congrArg (fun c => c.2.2.1) h.cf
theorem Begun.f1 {n : Nat} {p : Int → Int} {pat : Int} {f1 f2 : List Int} {k : Nat} {X : MW} (h : Begun n p pat f1 f2 k X) : X.f1 = f1 := congrArg (fun c => c.2.2.2.1) h.cf
theorem Begun.step {n : Nat} {p : Int → Int} {pat : Int} {f1 f2 : List Int} {k K : Nat} {X : MW} (h : Begun n p pat f1 f2 k X) (hs : sm p n = 0) (hK : Settled n p K) (hk : k < K) (hKn : K ≤ 1000) (hmv : moved n (stP n p k) ≤ 1000000000000)
  (hpay : ∀ i : Int, 0 ≤ i → paidT n p i K ≤ f1.getD i.toNat 0) : (dealT n p k).Ok X ∧ Begun n p pat f1 f2 (k + 1) (X.begin (dealT n p k)) := by
 have hd := h.deals
 have hmem : X.mem = n := congrArg (fun c => c.1) h.cf
 have ham := hK.amount hs hk
 have hok : (dealT n p k).Ok X := by
  unfold Dl.Ok dealT
  dsimp only
  rw [hmem]
  omega
 have hlen : X.deals.length = k := by rw [hd, dealsT_len]
 have hts := MW.turn_same ({ X with deals := X.deals ++ [dealT n p k] } : MW) ((X.deals.length : Int) + 1) 1 1
 have hdl : (X.begin (dealT n p k)).deals = dealsT n p (k + 1) := by
  rw [dealsT_succ, ← hd]
  exact hts.2.1
 have hcf : cfg (X.begin (dealT n p k)) = ((n : Int), pat, dealsT n p (k + 1), f1, f2) := by
  have e : cfg (X.begin (dealT n p k)) = cfg ({ X with deals := X.deals ++ [dealT n p k] } : MW) := cfg_turn _ _ _ _
  rw [e, dealsT_succ, ← hd]
  have e2 := h.cf
  unfold cfg at e2 ⊢
  simp only [Prod.mk.injEq] at e2
  obtain ⟨a1, a2, a3, a4, a5⟩ := e2
  show (X.mem, X.pat, X.deals ++ [dealT n p k], X.f1, X.f2) = _
  rw [a1, a2, a4, a5]
 have hf1 : (X.begin (dealT n p k)).fst 1 = f1 := by
  show (X.begin (dealT n p k)).f1 = f1
  exact congrArg (fun c => c.2.2.2.1) hcf
 refine ⟨hok, ⟨h.well.begin hok (by omega) ⟨fun i i0 => ?_, goods_T hdl⟩, hcf⟩⟩
 rw [owes_T hdl, hf1]
 exact Int.le_trans (paidT_le hs hK i (k + 1) (by omega)) (hpay i i0)
theorem Begun.deliver {n : Nat} {p : Int → Int} {pat : Int} {f1 f2 : List Int} {k : Nat} {X : MW} (h : Begun n p pat f1 f2 k X) {i : Nat} (hi : i < X.bag.length) : Begun n p pat f1 f2 k (X.deliver i) := by
 obtain ⟨h1, h2⟩ := h.well.deliver hi
 exact ⟨h1, h2.trans h.cf⟩
theorem Begun.paid {n : Nat} {p : Int → Int} {pat : Int} {f1 f2 : List Int} {K : Nat} {X : MW} (h : Begun n p pat f1 f2 K X) (hs : sm p n = 0) (hK : Settled n p K) (hpat : 2 ≤ pat) {q : Nat} (hq : pat + 3 ≤ q) {i : Int} (i0 : 0 ≤ i) (i1 : i < n) : (X.heal q).bal 1 i = f1.getD i.toNat 0 + p i := by
 have hp : X.pat = pat := congrArg (fun c => c.2.1) h.cf
 have hb := h.well.heal (by rw [hp]; exact hpat) (k := q) (by rw [hp]; exact hq) i
 have hf1 : X.fst 1 = f1 := h.f1
 rw [hb, hf1, sm_sub, h.deals, dealsT_len]
 obtain ⟨g1, _⟩ := settled_paid hs hK i0 i1
 have e1 : sm (fun j => if i = X.payee 1 (j + 1) then X.amount 1 (j + 1) else 0) K = gotT n p i K := sm_congr fun j j0 j1 => by
  have e := deal_at h.deals j0 j1
  have a1 : X.payee 1 (j + 1) = Proofs.Ytijffdhailddoaa.getter n (stP n p j.toNat) := by
   unfold MW.payee
   rw [if_pos rfl, e]
   show _ + 1 - 1 = _
   omega
  have a2 : X.amount 1 (j + 1) = moved n (stP n p j.toNat) := by
   unfold MW.amount
   rw [if_pos rfl, e]
   rfl
  rw [a1, a2]
  by_cases c : i = Proofs.Ytijffdhailddoaa.getter n (stP n p j.toNat)
  ·rw [if_pos c, if_pos c.symm]
  ·rw [if_neg c, if_neg fun e => c e.symm]
 have e2 : sm (fun j => if i = X.payer 1 (j + 1) then X.amount 1 (j + 1) else 0) K = paidT n p i K := sm_congr fun j j0 j1 => by
  have e := deal_at h.deals j0 j1
  have a1 : X.payer 1 (j + 1) = Proofs.Ytijffdhailddoaa.payer n (stP n p j.toNat) := by
   unfold MW.payer
   rw [if_pos rfl, e]
   show _ + 1 - 1 = _
   omega
  have a2 : X.amount 1 (j + 1) = moved n (stP n p j.toNat) := by
   unfold MW.amount
   rw [if_pos rfl, e]
   rfl
  rw [a1, a2]
  by_cases c : i = Proofs.Ytijffdhailddoaa.payer n (stP n p j.toNat)
  ·rw [if_pos c, if_pos c.symm]
  ·rw [if_neg c, if_neg fun e => c e.symm]
 rw [e1, e2]
 omega
end Go.Proofs.Ytijffdhailddoaa
