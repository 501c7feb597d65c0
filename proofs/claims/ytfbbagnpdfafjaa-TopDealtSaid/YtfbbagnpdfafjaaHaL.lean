import Derived.Test.YtfbbagnpdfafjaaHaK
set_option maxRecDepth 100000
namespace Go.Proofs.Ytfbbagnpdfafjaa
open Go.RowKit Go.Proofs
theorem glF_at {l : List Int} {t : Nat} (h : t < l.length) : l[t]? = some (glF l t) := by
 unfold glF
 rw [List.getD_eq_getElem?_getD, Int.toNat_natCast, List.getElem?_eq_getElem h]
 rfl
theorem take_fil (l : List Int) (Q : Int → Bool) (t : Nat) (h : t < l.length) : (l.take (t + 1)).filter Q = if Q (glF l t) then (l.take t).filter Q ++ [glF l t] else (l.take t).filter Q := by
 rw [List.take_add_one, List.filter_append, glF_at h]
 cases c : Q (glF l t) <;> simp [c]
theorem filL_filter (P Q : Int → Bool) : ∀ n, (filL P n).filter Q = filL (fun j => P j && Q j) n
 | 0 => rfl
 | n + 1 => by
  rw [filL_succ, filL_succ, ← filL_filter P Q n]
  cases c : P n
  ·simp
  ·cases c2 : Q n <;> simp [c2]
def sgn (x : Int) : Int := if x < 0 then -1 else 1
theorem sgn_one (x : Int) : sgn x = 1 ∨ sgn x = -1 := by unfold sgn; split; exact .inr rfl; exact .inl rfl
theorem sgn_mul (x : Int) : sgn x * x = x.natAbs := by unfold sgn; split <;> omega
def HM.wt (X : HM) (i m s j : Int) : Int := if X.othP i j = true then max 0 (-s * (X.ac j).pos m) else 0
noncomputable def HM.tkP (X : HM) (i j m : Int) : Int :=
 if (X.acct i).pos m = 0 then (X.ac j).pos m else if j = i - 1 then 0 else (X.ac j).pos m + sgn ((X.acct i).pos m) * shF (sgn ((X.acct i).pos m) * (X.acct i).pos m) X.mem (X.wt i m (sgn ((X.acct i).pos m))) j
noncomputable def HM.tkG (X : HM) (i k j : Int) : HA := { X.ac j with pos := fun m => if m < k then X.tkP i j m else (X.ac j).pos m }
structure HZ (X : HM) : Prop where
 zero : ∀ m : Int, 0 ≤ m → m < 12 → sm (fun j => (X.ac j).pos m) X.mem = 0
 out : ∀ j : Int, 0 ≤ j → j < X.mem → (X.ac j).out = true → ∀ m : Int, 0 ≤ m → m < 12 → (X.ac j).pos m = 0
 oc : ∀ j : Int, 0 ≤ j → j < X.mem → (X.ac j).out = true → 0 ≤ (X.ac j).cash
theorem wt_nonneg (X : HM) (i m s j : Int) : 0 ≤ X.wt i m s j := by unfold HM.wt; split; exact Int.le_max_left _ _; exact Int.le_refl _
theorem wt_sum {X : HM} (hZ : HZ X) {i m : Int} (hi : 1 ≤ i ∧ i ≤ X.mem) (m0 : 0 ≤ m) (m1 : m < 12) {s : Int} (hs : s = 1 ∨ s = -1) : s * (X.acct i).pos m ≤ sm (X.wt i m s) X.mem := by
 have h1 : ∀ j : Int, 0 ≤ j → j < X.mem → -s * (X.ac j).pos m ≤ X.wt i m s j + upd (fun _ => 0) (i - 1) (-s * (X.acct i).pos m) j := fun j j0 j1 => by
  by_cases e : j = i - 1
  ·rw [e, upd_same]
   have := wt_nonneg X i m s (i - 1)
   show -s * (X.ac (i - 1)).pos m ≤ X.wt i m s (i - 1) + -s * (X.ac (i - 1)).pos m
   omega
  ·rw [upd_ne _ _ e]
   unfold HM.wt HM.othP
   rw [decide_eq_true e]
   cases c : (X.ac j).out
   ·rw [if_pos (by rfl)]
    have := Int.le_max_right 0 (-s * (X.ac j).pos m)
    omega
   ·rw [if_neg (by decide), hZ.out j j0 j1 c m m0 m1, Int.mul_zero]
    omega
 have h2 := sm_le h1
 rw [sm_mul, hZ.zero m m0 m1, sm_add, sm_upd _ _ _ (by omega) (by omega), sm_const 0 (by omega), Int.mul_zero, Int.mul_zero, Int.neg_mul] at h2
 omega
theorem spreadOut {l : List Int} {n : Nat} {P : Int → Bool} (hl : l = filL P n) (o : Int → Int) : ∃ o' : Int → Int, (∀ t : Int, 0 ≤ t → t < l.length → o' (glF l t) = o t) ∧ ∀ j : Int, (∀ t : Int, 0 ≤ t → t < l.length → glF l t ≠ j) → o' j = 0 := by
 subst hl
 classical
 refine ⟨fun j => if h : ∃ t : Int, 0 ≤ t ∧ t < (filL P n).length ∧ glF (filL P n) t = j then o (Classical.choose h) else 0, fun t t0 t1 => ?_, fun j hj => ?_⟩
 ·have hx : ∃ t' : Int, 0 ≤ t' ∧ t' < (filL P n).length ∧ glF (filL P n) t' = glF (filL P n) t := ⟨t, t0, t1, rfl⟩
  dsimp only
  rw [dif_pos hx]
  obtain ⟨a, b, c⟩ := Classical.choose_spec hx
  have : Classical.choose hx = t := by
   refine Classical.byContradiction fun hne => ?_
   rcases Int.lt_or_gt_of_ne hne with d | d
   ·have := filL_mono P n _ _ a d t1
    omega
   ·have := filL_mono P n _ _ t0 d b
    omega
  rw [this]
 ·dsimp only
  rw [dif_neg]
  rintro ⟨t, t0, t1, e⟩
  exact hj t t0 t1 e
theorem tkG_upd {X : HM} {i m j v : Int} (h : v = X.tkP i j m) : { X.tkG i m j with pos := upd (X.tkG i m j).pos m v } = X.tkG i (m + 1) j := by
 unfold HM.tkG
 simp only [HA.mk.injEq, true_and, and_true]
 funext m'
 unfold upd
 by_cases e : m' = m
 ·rw [if_pos e, if_pos (by omega), e, h]
 ·rw [if_neg e]
  dsimp only
  by_cases c : m' < m
  ·rw [if_pos c, if_pos (by omega)]
  ·rw [if_neg c, if_neg (by omega)]
theorem tkG_same {X : HM} {i m j : Int} (h : (X.ac j).pos m = X.tkP i j m) : X.tkG i m j = X.tkG i (m + 1) j := by
 rw [← tkG_upd (v := (X.ac j).pos m) h]
 unfold HM.tkG
 simp only [HA.mk.injEq, true_and, and_true]
 funext m'
 unfold upd
 by_cases e : m' = m
 ·rw [if_pos e, if_neg (by omega), e]
 ·rw [if_neg e]
theorem tkG_pos (X : HM) (i m j : Int) : (X.tkG i m j).pos m = (X.ac j).pos m := if_neg (by omega)
def HM.agP (X : HM) (i m s j : Int) : Bool := X.othP i j && decide (0 < -s * (X.ac j).pos m)
theorem taken_eq {X : HM} {i m s : Int} {out o' : Int → Int} (ht : 0 ≤ s * (X.acct i).pos m)
  (h : Shr (s * (X.acct i).pos m) (filL (X.agP i m s) X.mem).length (fun t => -s * (X.ac (glF (filL (X.agP i m s) X.mem) t)).pos m) out)
  (he : ∀ t : Int, 0 ≤ t → t < (filL (X.agP i m s) X.mem).length → o' (glF (filL (X.agP i m s) X.mem) t) = out t) (hz : ∀ j : Int, (∀ t : Int, 0 ≤ t → t < (filL (X.agP i m s) X.mem).length → glF (filL (X.agP i m s) X.mem) t ≠ j) → o' j = 0) :
  ∀ j : Int, 0 ≤ j → j < X.mem → shF (s * (X.acct i).pos m) X.mem (X.wt i m s) j = o' j := by
 refine shF_eq (Shr.embed (P := X.agP i m s) ht (fun j _ _ => wt_nonneg X i m s j) (fun j j0 j1 hp => ?_) (h.congr (fun t t0 t1 => ?_) fun _ _ _ => rfl) he fun j j0 j1 hp => ?_)
 ·unfold HM.wt
  unfold HM.agP at hp
  cases c : X.othP i j
  ·rfl
  ·rw [c] at hp
   have : ¬ 0 < -s * (X.ac j).pos m := by simpa using hp
   rw [if_pos rfl]
   omega
 ·have hp := (filL_in (X.agP i m s) X.mem t t0 t1).2
  generalize glF (filL (X.agP i m s) X.mem) t = j at hp ⊢
  unfold HM.agP at hp
  rw [Bool.and_eq_true] at hp
  have h2 : 0 < -s * (X.ac j).pos m := of_decide_eq_true hp.2
  unfold HM.wt
  rw [if_pos hp.1]
  omega
 ·refine hz j fun t t0 t1 e => ?_
  have := (filL_in (X.agP i m s) X.mem t t0 t1).2
  rw [e, hp] at this
  cases this
theorem filL_notin {P : Int → Bool} {n : Nat} {t : Nat} (ht : t < (filL P n).length) : glF (filL P n) t ∉ (filL P n).take t := fun h => by
 obtain ⟨s, hs, e⟩ := List.getElem_of_mem h
 rw [List.length_take] at hs
 rw [List.getElem_take] at e
 have e2 : glF (filL P n) s = glF (filL P n) t := by
  rw [← e]
  unfold glF
  rw [List.getD_eq_getElem?_getD, Int.toNat_natCast, List.getElem?_eq_getElem (by omega)]
  rfl
 have := filL_mono P n s t (by omega) (by omega) (by omega)
 omega
theorem mem_take {l : List Int} {t : Nat} (ht : t < l.length) (j : Int) : j ∈ l.take (t + 1) ↔ j ∈ l.take t ∨ j = glF l t := by
 rw [List.take_add_one, glF_at ht]
 simp
theorem mem_filL {P : Int → Bool} {n : Nat} {j : Int} (h : j ∈ filL P n) : P j = true ∧ 0 ≤ j ∧ j < n := by
 obtain ⟨s, hs, e⟩ := List.getElem_of_mem h
 have e2 : glF (filL P n) s = j := by
  rw [← e]
  unfold glF
  rw [List.getD_eq_getElem?_getD, Int.toNat_natCast, List.getElem?_eq_getElem hs]
  rfl
 have := filL_in P n s (by omega) (by omega)
 rw [e2] at this
 exact ⟨this.2, this.1⟩
theorem not_filL {P : Int → Bool} {n : Nat} {j : Int} (h : j ∉ filL P n) : ∀ t : Int, 0 ≤ t → t < (filL P n).length → glF (filL P n) t ≠ j := fun t t0 t1 e => h (by
 rw [← e]
 unfold glF
 rw [List.getD_eq_getElem?_getD, List.getElem?_eq_getElem (by omega)]
 exact List.getElem_mem _)
theorem wt_ag {X : HM} {i m s j : Int} (h : X.agP i m s j = true) : X.wt i m s j = -s * (X.ac j).pos m ∧ 0 < -s * (X.ac j).pos m ∧ X.othP i j = true ∧ j ≠ i - 1 := by
 unfold HM.agP at h
 rw [Bool.and_eq_true] at h
 have h2 : 0 < -s * (X.ac j).pos m := of_decide_eq_true h.2
 unfold HM.wt
 rw [if_pos h.1]
 have h3 := h.1
 unfold HM.othP at h3
 rw [Bool.and_eq_true] at h3
 exact ⟨by omega, h2, h.1, of_decide_eq_true h3.1⟩
theorem wt_off {X : HM} {i m s j : Int} (h : X.agP i m s j = false) : X.wt i m s j = 0 := by
 unfold HM.wt
 unfold HM.agP at h
 cases c : X.othP i j
 ·rfl
 ·rw [c] at h
  have : ¬ 0 < -s * (X.ac j).pos m := by simpa using h
  rw [if_pos rfl]
  omega
theorem Shr.rng {total : Int} {n : Nat} {W out : Int → Int} (h : Shr total n W out) (ht : 0 ≤ total) (hW : ∀ i : Int, 0 ≤ i → i < n → 0 ≤ W i) : ∀ i : Int, 0 ≤ i → i < n → 0 ≤ out i ∧ out i ≤ total := by
 have hS : 0 ≤ sm W n := sm_nonneg hW
 have h0 : ∀ i : Int, 0 ≤ i → i < n → 0 ≤ out i := fun i i0 i1 => by
  have := Int.ediv_nonneg (Int.mul_nonneg ht (hW i i0 i1)) hS
  have := h.one i i0 i1
  omega
 intro i i0 i1
 have h1 := sm_pos h0 i i0 i1
 have h2 := h.sum
 refine ⟨h0 i i0 i1, ?_⟩
 split at h2 <;> omega
theorem IRow.openZ {ao : Option Addr} {m cap : Nat} {E : TypeId} {n : Nat} {G : Int → Value} {c : Option Blk} (h : IRow (.slice ao m cap) E n G c) (hn : 1 ≤ n) :
  ∃ b, ao = some ⟨b, 0, none⟩ ∧ ∀ {B : Nat} {w0 w : World} {H : List (Option Blk)}, Own B w0 w H → ∀ k : Nat, H[k]? = some c → ∀ i : Int, 0 ≤ i → i < n → w.cell? ⟨b, 0 + i.toNat, none⟩ = some (G i) := by
 have h' := h
 rcases h with ⟨h1, h0, h2⟩ | ⟨b, cap', g, h1, h2, h3, h4, h5⟩
 ·omega
 ·cases h1
  refine ⟨b, rfl, fun ho k hk i i0 i1 => ?_⟩
  obtain ⟨b2, e1, e2⟩ := h'.openS ho k hk
  cases e1 (by omega)
  exact e2 i i0 i1
theorem take_step {X : HM} {i m t v : Int} {l2 : List Int} {n : Nat} (ht : t = n) (hn : n < l2.length) (hni : glF l2 t ∉ l2.take n) (hv : v = X.tkP i (glF l2 t) m) (j : Int) :
  upd (fun j => if j ∈ l2.take n then X.tkG i (m + 1) j else X.tkG i m j) (glF l2 t) { (if glF l2 t ∈ l2.take n then X.tkG i (m + 1) (glF l2 t) else X.tkG i m (glF l2 t)) with pos := upd (if glF l2 t ∈ l2.take n then X.tkG i (m + 1) (glF l2 t) else X.tkG i m (glF l2 t)).pos m v } j = if j ∈ l2.take (n + 1) then X.tkG i (m + 1) j else X.tkG i m j := by
 have hm := mem_take hn j
 rw [← ht] at hm
 by_cases e : j = glF l2 t
 ·rw [e, upd_same, if_neg hni, if_pos (by rw [← e]; exact hm.2 (.inr e))]
  exact tkG_upd hv
 ·rw [upd_ne _ _ e]
  by_cases c : j ∈ l2.take n
  ·rw [if_pos c, if_pos (hm.2 (.inl c))]
  ·rw [if_neg c, if_neg (fun h => (hm.1 h).elim c e)]
theorem take_last {X : HM} {i m : Int} {l2 : List Int} (hni : (i - 1) ∉ l2) (hv : 0 = X.tkP i (i - 1) m) (j : Int) (hsame : j ∉ l2 → j ≠ i - 1 → (X.ac j).pos m = X.tkP i j m) :
  upd (fun j => if j ∈ l2 then X.tkG i (m + 1) j else X.tkG i m j) (i - 1) { (if i - 1 ∈ l2 then X.tkG i (m + 1) (i - 1) else X.tkG i m (i - 1)) with pos := upd (if i - 1 ∈ l2 then X.tkG i (m + 1) (i - 1) else X.tkG i m (i - 1)).pos m 0 } j = X.tkG i (m + 1) j := by
 by_cases e : j = i - 1
 ·rw [e, upd_same, if_neg hni]
  exact tkG_upd hv
 ·rw [upd_ne _ _ e]
  by_cases c : j ∈ l2
  ·rw [if_pos c]
  ·rw [if_neg c]
   exact tkG_same (hsame c e)
end Go.Proofs.Ytfbbagnpdfafjaa
