import Derived.Test.YtfbbagnpdfafjaaHcY
set_option maxRecDepth 100000
namespace Go.Proofs.Ytfbbagnpdfafjaa
open Go.RowKit Go.Proofs
def HM.mvM (X : HM) (s m : Int) : HM := { X with ac := fun j => { X.ac j with cash := (X.ac j).cash + sm (fun k => (X.ac j).pos k * X.mv s k) m }, pr := fun k => if 0 ≤ k ∧ k < m then X.pr k + X.mv s k else X.pr k }
theorem mvM_zero (X : HM) (s : Int) : X.mvM s 0 = X := by
 have e1 : (fun k => if 0 ≤ k ∧ k < 0 then X.pr k + X.mv s k else X.pr k) = X.pr := by funext k; rw [if_neg (by omega)]
 have e2 : (fun j => { X.ac j with cash := (X.ac j).cash + sm (fun k => (X.ac j).pos k * X.mv s k) 0 }) = X.ac := by
  funext j
  show ({ X.ac j with cash := (X.ac j).cash + 0 } : HA) = X.ac j
  rw [Int.add_zero]
 show ({ X with ac := fun j => { X.ac j with cash := (X.ac j).cash + sm (fun k => (X.ac j).pos k * X.mv s k) 0 }, pr := fun k => if 0 ≤ k ∧ k < 0 then X.pr k + X.mv s k else X.pr k } : HM) = X
 rw [e1, e2]
theorem mvM_mark {X : HM} {s m : Int} (m0 : 0 ≤ m) (h : (X.mvM s m).mrk m (X.pr m + X.mv s m) = 0) : (X.mvM s m).mark m (X.pr m + X.mv s m) = X.mvM s (m + 1) := by
 unfold HM.mark
 rw [if_pos h]
 unfold HM.mvM HM.mkA
 simp only [HM.mk.injEq, true_and, and_true]
 refine ⟨?_, ?_⟩
 ·funext k
  unfold upd
  by_cases e : k = m
  ·rw [if_pos e, if_pos (by omega), e]
  ·rw [if_neg e]
   dsimp only
   by_cases c : 0 ≤ k ∧ k < m
   ·rw [if_pos c, if_pos (by omega)]
   ·rw [if_neg c, if_neg (by omega)]
 ·funext j
  have h1 := sm_succ (fun k => (X.ac j).pos k * X.mv s k) (k := m) m0
  rw [h1, if_neg (by omega), show X.pr m + X.mv s m - X.pr m = X.mv s m by omega]
  simp only [HA.mk.injEq, and_true]
  omega
theorem mvM_hg {X : HM} (hX : HB 50 X) {s m : Int} (s0 : 0 ≤ s) (s1 : s < X.k) (m0 : 0 ≤ m) (m1 : m ≤ X.mo) (hp : ∀ k : Int, 0 ≤ k → k < m → 1 ≤ X.pr k + X.mv s k) : HG (X.mvM s m) := by
 have hG := hX.hg (by omega)
 have hmo := hX.mo
 refine ⟨hG.mem, hG.mo, fun k k0 k1 => ?_, hG.k, hG.mv, hG.rate, hG.cap, hG.hole, hG.pos, fun i i0 i1 => ?_, hG.fund, hG.n⟩
 ·show 0 ≤ (if 0 ≤ k ∧ k < m then X.pr k + X.mv s k else X.pr k) ∧ (if 0 ≤ k ∧ k < m then X.pr k + X.mv s k else X.pr k) ≤ 1000000
  split
  ·have h1 := hp k k0 (by omega)
   have h2 := hX.pr k k0 (by omega)
   have h3 := hX.mv s s0 s1 k k0 k1
   omega
  ·exact hG.pr k k0 k1
 ·show ((X.ac i).cash + sm (fun k => (X.ac i).pos k * X.mv s k) m).natAbs ≤ _
  have h1 := hX.cash i i0 i1
  have h2 := sm_abs (f := fun k => (X.ac i).pos k * X.mv s k) (k := m) 5000000 m0 fun k k0 k1 => by
   have h3 := hX.pos i i0 i1 k k0 (by omega)
   have h4 := hX.mv s s0 s1 k k0 (by omega)
   have := mulAbs (a := (X.ac i).pos k) (b := X.mv s k) (A := 5000) (B := 1000) h3 h4
   exact this
  omega
theorem holds_cash {X : HM} (hX : HB 50 X) (hr : X.rate = 0) {s : Int} (s0 : 0 ≤ s) (s1 : s < X.k) {j : Int} (j0 : 0 ≤ j) (j1 : j < X.mem) (hu : ¬ X.unc (X.ac j)) : 0 ≤ ((X.mvM s X.mo).ac j).cash := by
 have hmo := hX.mo
 show 0 ≤ (X.ac j).cash + sm (fun k => (X.ac j).pos k * X.mv s k) X.mo
 rw [← sm_flat12 (f := fun k => (X.ac j).pos k * X.mv s k) (n := X.mo) (by omega) hmo.2 fun m hm => by rw [hX.posz j j0 j1 m hm, Int.zero_mul]]
 cases ho : (X.ac j).out
 ·refine covers hr (Classical.byContradiction fun h => hu ⟨ho, h⟩) s0 s1
 ·have e : sm (fun k => (X.ac j).pos k * X.mv s k) 12 = sm (fun _ => 0) 12 := sm_congr fun k k0 k1 => by
   rw [hX.Z.out j j0 j1 ho k k0 k1, Int.zero_mul]
  rw [e, sm_const 0 (by decide), Int.mul_zero, Int.add_zero]
  exact hX.Z.oc j j0 j1 ho
theorem cls_has {X : HM} : ∀ {k j : Nat}, j < k → X.unc (X.ac j) → ((j : Int) + 1) ∈ X.cls k
 | 0, _, h, _ => absurd h (Nat.not_lt_zero _)
 | k + 1, j, h, hu => by
  show _ ∈ (if X.unc (X.ac k) then X.cls k ++ [(k : Int) + 1] else X.cls k)
  by_cases e : j = k
  ·subst e
   rw [if_pos hu]
   exact List.mem_append_right _ (List.mem_singleton.2 rfl)
  ·have h1 := cls_has (X := X) (k := k) (j := j) (by omega) hu
   split
   ·exact List.mem_append_left _ h1
   ·exact h1
theorem glH_has {l : List Int} {x : Int} (h : x ∈ l) : ∃ q : Int, 0 ≤ q ∧ q < l.length ∧ glH l q = x := by
 obtain ⟨n, hn, e⟩ := List.mem_iff_getElem.1 h
 refine ⟨n, by omega, by omega, ?_⟩
 unfold glH
 rw [List.getD_eq_getElem?_getD, Int.toNat_natCast, List.getElem?_eq_getElem hn, e]
 rfl
def memb (l : List Int) (i k : Int) : Prop := ∃ q : Int, 0 ≤ q ∧ q < k ∧ glH l q = i
noncomputable instance (l : List Int) (i k : Int) : Decidable (memb l i k) := Classical.propDecidable _
theorem memb_up {l : List Int} {i k : Int} (h : memb l i k) : memb l i (k + 1) := by
 obtain ⟨q, q0, q1, e⟩ := h
 exact ⟨q, q0, by omega, e⟩
theorem memb_at {l : List Int} {i k : Int} (k0 : 0 ≤ k) (h : ¬ memb l i k) : glH l k = i ↔ memb l i (k + 1) := by
 refine ⟨fun e => ⟨k, k0, by omega, e⟩, fun ⟨q, q0, q1, e⟩ => ?_⟩
 by_cases c : q = k
 ·rw [← c]; exact e
 ·exact absurd ⟨q, q0, by omega, e⟩ h
end Go.Proofs.Ytfbbagnpdfafjaa
set_option maxRecDepth 100000
namespace Go.Proofs.Ytfbbagnpdfafjaa
open Go.RowKit Go.Proofs
theorem mrk_ok {X : HM} {m p : Int} (hm : 0 ≤ m ∧ m < X.mo) (hp : 1 ≤ p ∧ p ≤ 1000000) : X.mrk m p = 0 := by
 unfold HM.mrk
 rw [if_neg (by omega), if_pos hp]
end Go.Proofs.Ytfbbagnpdfafjaa
