import Derived.Test.YtbepolognfdkeaaGaN
set_option maxRecDepth 100000
namespace Go.Proofs.Ytbepolognfdkeaa
noncomputable def cnt7 (l : Lds) (X : Int → Int) (k : Int) : Int := sm (fun i => ind (l.In X i k)) l.n
def stepB (T : List Trn) (a b n : Int) : List Trn :=
 if 0 < T.length ∧ (qT T ((T.length : Int) - 1)).2.2 = n ∧ (qT T ((T.length : Int) - 1)).2.1 = a then T.set (T.length - 1) ((qT T ((T.length : Int) - 1)).1, b, n)
 else if 0 < n then T ++ [(a, b, n)] else T
noncomputable def bzK (l : Lds) (X : Int → Int) : Nat → List Trn
 | 0 => []
 | k + 1 => stepB (bzK l X k) (X k) (X (k + 1)) (cnt7 l X k)
theorem stepB_pos {T : List Trn} {a b n : Int} (h : ∀ j : Int, 0 ≤ j → j < T.length → 0 < (qT T j).2.2) : ∀ j : Int, 0 ≤ j → j < (stepB T a b n).length → 0 < (qT (stepB T a b n) j).2.2 := fun j j0 j1 => by
 unfold stepB at j1 ⊢
 by_cases c : 0 < T.length ∧ (qT T ((T.length : Int) - 1)).2.2 = n ∧ (qT T ((T.length : Int) - 1)).2.1 = a
 ·rw [if_pos c] at j1 ⊢
  rw [List.length_set] at j1
  have h1 := h ((T.length : Int) - 1) (by omega) (by omega)
  unfold qT
  rw [List.getD_eq_getElem?_getD, List.getElem?_set]
  by_cases e : T.length - 1 = j.toNat
  ·rw [if_pos e, if_pos (by omega)]
   show 0 < n
   omega
  ·rw [if_neg e]
   have := h j j0 j1
   unfold qT at this
   rw [List.getD_eq_getElem?_getD] at this
   exact this
 ·rw [if_neg c] at j1 ⊢
  by_cases e : 0 < n
  ·rw [if_pos e] at j1 ⊢
   rw [List.length_append] at j1
   unfold qT
   by_cases d : j = T.length
   ·rw [d, Int.toNat_natCast, List.getD_eq_getElem?_getD, List.getElem?_append_right (Nat.le_refl _)]
    simpa using e
   ·have j2 : j < T.length := by have : j < ((T.length + 1 : Nat) : Int) := j1; omega
    rw [List.getD_eq_getElem?_getD, List.getElem?_append_left (by omega)]
    have := h j j0 j2
    unfold qT at this
    rw [List.getD_eq_getElem?_getD] at this
    exact this
  ·rw [if_neg e] at j1 ⊢
   exact h j j0 j1
theorem bzK_pos (l : Lds) (X : Int → Int) : ∀ k : Nat, ∀ j : Int, 0 ≤ j → j < (bzK l X k).length → 0 < (qT (bzK l X k) j).2.2
 | 0 => fun j j0 j1 => by have : j < ((0 : Nat) : Int) := j1; omega
 | k + 1 => stepB_pos (bzK_pos l X k)
theorem stepB_len (T : List Trn) (a b n : Int) : (stepB T a b n).length ≤ T.length + 1 := by
 unfold stepB
 split
 ·rw [List.length_set]; omega
 ·split
  ·rw [List.length_append]; exact Nat.le_refl _
  ·omega
theorem bzK_len (l : Lds) (X : Int → Int) : ∀ k : Nat, (bzK l X k).length ≤ k
 | 0 => Nat.le_refl _
 | k + 1 => Nat.le_trans (stepB_len _ _ _ _) (Nat.succ_le_succ (bzK_len l X k))
theorem stepB_none {T : List Trn} {a b : Int} (h : ∀ j : Int, 0 ≤ j → j < T.length → 0 < (qT T j).2.2) : stepB T a b 0 = T := by
 unfold stepB
 rw [if_neg fun c => by have := h ((T.length : Int) - 1) (by omega) (by omega); omega, if_neg (by omega)]
theorem bzK_stepB (l : Lds) (X : Int → Int) (k : Nat) : bzK l X (k + 1) = stepB (bzK l X k) (X k) (X (k + 1)) (cnt7 l X k) := rfl
section
variable {l : Lds} {c : Nat} {X : Int → Int} {M : Int}
theorem Cuts.in_iff (h : Cuts l c X) {i : Int} (i0 : 0 ≤ i) (i1 : i < l.n) {k : Int} (k0 : 0 ≤ k) (k1 : k < ((c - 1 : Nat) : Int)) : l.In X i k ↔ l.r i ≤ X k ∧ X k < l.d i := by
 have hinc := h.inc k (k + 1) k0 (by omega) (by omega)
 constructor
 ·rintro ⟨a, b⟩; exact ⟨a, by omega⟩
 ·rintro ⟨a, b⟩
  refine ⟨a, ?_⟩
  obtain ⟨j, hj, e⟩ := (h.mem (l.d i)).2 ⟨i, ⟨i0, i1⟩, .inr rfl⟩
  have hkj : k < j := Classical.byContradiction fun hn => by
   have := h.mono (a := j) (b := k) hj.1 (by omega) (by omega); omega
  have := h.mono (a := k + 1) (b := j) (by omega) (by omega) hj.2
  omega
structure Nxt (l : Lds) (h : Int) (j e : Int) : Prop where
 le : e ≤ 1000000
 due : ∀ i : Int, 0 ≤ i → i < j → l.r i ≤ h → h < l.d i → e ≤ l.d i
 rdy : ∀ i : Int, 0 ≤ i → i < j → h < l.r i → e ≤ l.r i
 at_ : e = 1000000 ∨ (∃ i : Int, (0 ≤ i ∧ i < j) ∧ (l.r i ≤ h ∧ h < l.d i) ∧ e = l.d i) ∨ ∃ i : Int, (0 ≤ i ∧ i < j) ∧ h < l.r i ∧ e = l.r i
theorem Nxt.due1 {h : Int} {j : Nat} {e : Int} (hN : Nxt l h j e) (c : l.r j ≤ h ∧ h < l.d j) : Nxt l h ((j + 1 : Nat) : Int) (min e (l.d j)) := by
 refine ⟨by have := hN.le; omega, fun i i0 i1 a b => ?_, fun i i0 i1 a => ?_, ?_⟩
 ·by_cases d : i = (j : Int)
  ·rw [d]; omega
  ·have := hN.due i i0 (by omega) a b; omega
 ·by_cases d : i = (j : Int)
  ·rw [d] at a; omega
  ·have := hN.rdy i i0 (by omega) a; omega
 ·by_cases q : e ≤ l.d j
  ·rw [show min e (l.d j) = e by omega]
   rcases hN.at_ with a | ⟨i, hi, a⟩ | ⟨i, hi, a⟩
   ·exact .inl a
   ·exact .inr (.inl ⟨i, by omega, a⟩)
   ·exact .inr (.inr ⟨i, by omega, a⟩)
  ·exact .inr (.inl ⟨j, by omega, c, by omega⟩)
theorem Nxt.rdy1 {h : Int} {j : Nat} {e : Int} (hN : Nxt l h j e) (c : h < l.r j) : Nxt l h ((j + 1 : Nat) : Int) (min e (l.r j)) := by
 refine ⟨by have := hN.le; omega, fun i i0 i1 a b => ?_, fun i i0 i1 a => ?_, ?_⟩
 ·by_cases d : i = (j : Int)
  ·rw [d] at a; omega
  ·have := hN.due i i0 (by omega) a b; omega
 ·by_cases d : i = (j : Int)
  ·rw [d]; omega
  ·have := hN.rdy i i0 (by omega) a; omega
 ·by_cases q : e ≤ l.r j
  ·rw [show min e (l.r j) = e by omega]
   rcases hN.at_ with a | ⟨i, hi, a⟩ | ⟨i, hi, a⟩
   ·exact .inl a
   ·exact .inr (.inl ⟨i, by omega, a⟩)
   ·exact .inr (.inr ⟨i, by omega, a⟩)
  ·exact .inr (.inr ⟨j, by omega, c, by omega⟩)
theorem Nxt.no1 {h : Int} {j : Nat} {e : Int} (hN : Nxt l h j e) (c : ¬ (l.r j ≤ h ∧ h < l.d j)) (c2 : ¬ h < l.r j) : Nxt l h ((j + 1 : Nat) : Int) e := by
 refine ⟨hN.le, fun i i0 i1 a b => ?_, fun i i0 i1 a => ?_, ?_⟩
 ·by_cases d : i = (j : Int)
  ·rw [d] at a b; exact absurd ⟨a, b⟩ c
  ·exact hN.due i i0 (by omega) a b
 ·by_cases d : i = (j : Int)
  ·rw [d] at a; exact absurd a c2
  ·exact hN.rdy i i0 (by omega) a
 ·rcases hN.at_ with a | ⟨i, hi, a⟩ | ⟨i, hi, a⟩
  ·exact .inl a
  ·exact .inr (.inl ⟨i, by omega, a⟩)
  ·exact .inr (.inr ⟨i, by omega, a⟩)
inductive AtB (l : Lds) (c : Nat) (X : Int → Int) (h : Int) (T : List Trn) : Prop
 | before (e : h = 0) (hT : T = []) (hX : ∀ j : Int, 0 ≤ j → j < c → 0 < X j) : AtB l c X h T
 | on (k : Nat) (hk : k < c) (e : h = X k) (hT : T = bzK l X k) : AtB l c X h T
 | past (e : h = 1000000) (hT : T = bzK l X (c - 1)) : AtB l c X h T
theorem AtB.pos {h : Int} {T : List Trn} (ha : AtB l c X h T) : ∀ j : Int, 0 ≤ j → j < T.length → 0 < (qT T j).2.2 := by
 cases ha with
 | before e hT hX => subst hT; exact fun j j0 j1 => by have : j < ((0 : Nat) : Int) := j1; omega
 | on k hk e hT => subst hT; exact bzK_pos l X k
 | past e hT => subst hT; exact bzK_pos l X _
theorem AtB.done (hC : Cuts l c X) (hX : ∀ j : Int, 0 ≤ j → j < c → 0 ≤ X j ∧ X j ≤ 1000000) {h : Int} {T : List Trn} (ha : AtB l c X h T) (hh : ¬ h < 1000000) : T = bzK l X (c - 1) := by
 cases ha with
 | before e hT hX => omega
 | on k hk e hT =>
  have : k = c - 1 := Classical.byContradiction fun hn => by
   have h1 := hC.inc k (k + 1) (by omega) (by omega) (by omega)
   have h2 := hX (k + 1) (by omega) (by omega)
   omega
  rw [hT, this]
 | past e hT => exact hT
theorem AtB.next (hC : Cuts l c X) (hV : l.Valid) (hX : ∀ j : Int, 0 ≤ j → j < c → 0 ≤ X j ∧ X j ≤ 1000000) {h : Int} {T : List Trn} (ha : AtB l c X h T) (hh : h < 1000000) {e : Int} (hN : Nxt l h l.n e) :
  h < e ∧ AtB l c X e (stepB T h e (sm (fun i => ind (l.r i ≤ h ∧ h < l.d i)) l.n)) := by
 have hlt : h < e := by
  rcases hN.at_ with a | ⟨i, hi, a, b⟩ | ⟨i, hi, a, b⟩ <;> omega
 refine ⟨hlt, ?_⟩
 have hcut : ∀ j : Int, 0 ≤ j → j < c → h < X j → (∀ i : Int, 0 ≤ i → i < l.n → l.d i = X j → l.r i ≤ h → h < l.d i) → e ≤ X j := fun j j0 j1 hj _ => by
  obtain ⟨i, hi, a⟩ := (hC.mem (X j)).1 ⟨j, ⟨j0, j1⟩, rfl⟩
  have hv := hV i hi.1 hi.2
  unfold Lds.Val at hv
  rcases a with a | a
  ·have := hN.rdy i hi.1 hi.2 (by omega); omega
  ·by_cases b : l.r i ≤ h
   ·have := hN.due i hi.1 hi.2 b (by omega); omega
   ·have := hN.rdy i hi.1 hi.2 (by omega); omega
 cases ha with
 | before e0 hT hX0 =>
  subst hT
  have hn0 : sm (fun i => ind (l.r i ≤ h ∧ h < l.d i)) l.n = 0 := sm_zeroG fun i i0 i1 => ind_f fun a => by
   obtain ⟨j, hj, b⟩ := (hC.mem (l.r i)).2 ⟨i, ⟨i0, i1⟩, .inl rfl⟩
   have := hX0 j hj.1 hj.2
   omega
  rw [hn0, stepB_none fun j j0 j1 => by have : j < ((0 : Nat) : Int) := j1; omega]
  by_cases hc : c = 0
  ·refine .past ?_ (by rw [hc]; rfl)
   have hno : ∀ i : Int, 0 ≤ i → i < l.n → False := fun i i0 i1 => by
    obtain ⟨j, hj, _⟩ := (hC.mem (l.r i)).2 ⟨i, ⟨i0, i1⟩, .inl rfl⟩
    omega
   rcases hN.at_ with a | ⟨i, hi, _⟩ | ⟨i, hi, _⟩
   ·exact a
   ·exact (hno i hi.1 hi.2).elim
   ·exact (hno i hi.1 hi.2).elim
  ·refine .on 0 (by omega) ?_ rfl
   have h1 := hcut 0 (Int.le_refl 0) (by omega) (by have := hX0 0 (Int.le_refl 0) (by omega); omega) (fun i _ _ _ _ => by have := hX0 0 (Int.le_refl 0) (by omega); omega)
   have h2 : X 0 ≤ e := by
    have hcu : ∀ t : Int, (∃ i : Int, (0 ≤ i ∧ i < l.n) ∧ (t = l.r i ∨ t = l.d i)) → X 0 ≤ t := fun t ht => by
     obtain ⟨j, hj, b⟩ := (hC.mem t).2 ht
     rw [← b]; exact hC.mono (Int.le_refl 0) hj.1 hj.2
    rcases hN.at_ with a | ⟨i, hi, _, b⟩ | ⟨i, hi, _, b⟩
    ·rw [a]; exact (hX 0 (Int.le_refl 0) (by omega)).2
    ·exact hcu e ⟨i, hi, .inr b⟩
    ·exact hcu e ⟨i, hi, .inl b⟩
   show e = X ((0 : Nat) : Int)
   rw [show ((0 : Nat) : Int) = 0 from rfl]
   omega
 | on k hk e0 hT =>
  subst hT
  by_cases hk1 : k + 1 < c
  ·have hinc := hC.inc k (k + 1) (by omega) (by omega) (by omega)
   have h1 := hcut (k + 1) (by omega) (by omega) (by omega) (fun i _ _ a _ => by omega)
   have h2 : X (k + 1) ≤ e := by
    have hcu : ∀ t : Int, h < t → (∃ i : Int, (0 ≤ i ∧ i < l.n) ∧ (t = l.r i ∨ t = l.d i)) → X (k + 1) ≤ t := fun t hlt2 ht => by
     obtain ⟨j, hj, b⟩ := (hC.mem t).2 ht
     have hkj : (k : Int) < j := Classical.byContradiction fun hn => by
      have := hC.mono (a := j) (b := k) hj.1 (by omega) (by omega); omega
     rw [← b]; exact hC.mono (by omega) (by omega) hj.2
    rcases hN.at_ with a | ⟨i, hi, _, b⟩ | ⟨i, hi, _, b⟩
    ·rw [a]; exact (hX (k + 1) (by omega) (by omega)).2
    ·exact hcu e hlt ⟨i, hi, .inr b⟩
    ·exact hcu e hlt ⟨i, hi, .inl b⟩
   have he : e = X (k + 1) := by omega
   refine .on (k + 1) hk1 (by rw [he]; rfl) ?_
   rw [bzK_stepB, e0, he]
   congr 1
   exact sm_congr fun i i0 i1 => ind_congr (hC.in_iff i0 i1 (by omega) (by omega)).symm
  ·have hkc : k = c - 1 := by omega
   have hall : ∀ t : Int, (∃ i : Int, (0 ≤ i ∧ i < l.n) ∧ (t = l.r i ∨ t = l.d i)) → t ≤ h := fun t ht => by
    obtain ⟨j, hj, b⟩ := (hC.mem t).2 ht
    have := hC.mono (a := j) (b := k) hj.1 (by omega) (by omega)
    omega
   have hn0 : sm (fun i => ind (l.r i ≤ h ∧ h < l.d i)) l.n = 0 := sm_zeroG fun i i0 i1 => ind_f fun a => by
    have := hall (l.d i) ⟨i, ⟨i0, i1⟩, .inr rfl⟩; omega
   rw [hn0, stepB_none (bzK_pos l X k)]
   refine .past ?_ (by rw [hkc])
   rcases hN.at_ with a | ⟨i, hi, _, b⟩ | ⟨i, hi, a, b⟩
   ·exact a
   ·have := hall e ⟨i, hi, .inr b⟩; omega
   ·have := hall e ⟨i, hi, .inl b⟩; omega
 | past e0 hT => omega
theorem AtB.init (hX : ∀ j : Int, 0 ≤ j → j < c → 0 ≤ X j ∧ X j ≤ 1000000) (hC : Cuts l c X) : AtB l c X 0 [] := by
 by_cases h : 0 < c ∧ X 0 = 0
 ·exact .on 0 h.1 h.2.symm rfl
 ·refine .before rfl rfl fun j j0 j1 => ?_
  have h0 := (hX 0 (Int.le_refl 0) (by omega)).1
  have := hC.mono (a := 0) (b := j) (Int.le_refl 0) j0 j1
  have hne : X 0 ≠ 0 := fun e => h ⟨by omega, e⟩
  omega
end
end Go.Proofs.Ytbepolognfdkeaa
