/- Plain law of crises: greatest payments are unique; the numbers of which something holds, in order; waves. -/
import Derived.Test.YtiambddcpflkhaaNetI
set_option maxRecDepth 100000
namespace Go.Proofs.Ytiambddcpflkhaa
open Go.RowKit Go.Proofs

theorem Clr.uniq {n : Nat} {D : Int → Int → Int} {cash : Int → Int} {inn : Int → Bool} {p q : Int → Int} (h : Clr n D cash inn p) (h' : Clr n D cash inn q) : ∀ i : Int, 0 ≤ i → i < n → p i = q i := fun i i0 i1 =>
  Int.le_antisymm (h'.top p h.rng (fun i i0 i1 hi => Int.le_of_eq (h.fix i i0 i1 hi)) i i0 i1) (h.top q h'.rng (fun i i0 i1 hi => Int.le_of_eq (h'.fix i i0 i1 hi)) i i0 i1)

theorem rcv_congr {n : Nat} {D : Int → Int → Int} {p q : Int → Int} (h : ∀ i : Int, 0 ≤ i → i < n → p i = q i) (j : Int) : rcv n D p j = rcv n D q j :=
  sm_congr fun i i0 i1 => by rw [h i i0 i1]

theorem Clr.congrC {n : Nat} {D : Int → Int → Int} {cash cash' : Int → Int} {inn : Int → Bool} {p : Int → Int} (H : Clr n D cash inn p) (e : ∀ i : Int, 0 ≤ i → i < n → cash i = cash' i) : Clr n D cash' inn p :=
  ⟨H.rng, H.out, H.off, fun i i0 i1 h => by rw [← e i i0 i1]; exact H.fix i i0 i1 h, fun q h1 h2 => H.top q h1 (fun i i0 i1 h => by rw [e i i0 i1]; exact h2 i i0 i1 h)⟩

/-- Whether payments are clearing. -/
def Clg (n : Nat) (D : Int → Int → Int) (cash : Int → Int) (m : Nat) (p : Int → Int) : Prop :=
  m = n ∧ (∀ i : Int, 0 ≤ i → i < n → 0 ≤ p i ∧ p i ≤ ow n D i) ∧ ∀ i : Int, 0 ≤ i → i < n → p i = min (ow n D i) (cash i + rcv n D p i)

/-- The numbers below k of which P holds, in order. -/
def pk (P : Int → Bool) : Nat → List Int
  | 0 => []
  | k + 1 => if P k then pk P k ++ [(k : Int)] else pk P k
def lF (l : List Int) (j : Int) : Int := l.getD j.toNat 0

theorem pk_mem {P : Int → Bool} {k : Nat} {x : Int} : x ∈ pk P k ↔ 0 ≤ x ∧ x < k ∧ P x = true := by
  induction k with
  | zero => simp [pk]; omega
  | succ k ih =>
    unfold pk
    split
    · rename_i h
      rw [List.mem_append, ih, List.mem_singleton]
      constructor
      · rintro (⟨a, b, c⟩ | rfl)
        · exact ⟨a, by omega, c⟩
        · exact ⟨by omega, by omega, h⟩
      · rintro ⟨a, b, c⟩
        by_cases e : x = (k : Int)
        · exact .inr e
        · exact .inl ⟨a, by omega, c⟩
    · rename_i h
      rw [ih]
      constructor
      · rintro ⟨a, b, c⟩; exact ⟨a, by omega, c⟩
      · rintro ⟨a, b, c⟩
        by_cases e : x = (k : Int)
        · subst e; exact absurd c h
        · exact ⟨a, by omega, c⟩
theorem pk_congr {P Q : Int → Bool} {k : Nat} (h : ∀ i : Int, 0 ≤ i → i < k → P i = Q i) : pk P k = pk Q k := by
  induction k with
  | zero => rfl
  | succ k ih =>
    unfold pk
    rw [ih fun i i0 i1 => h i i0 (by omega), h k (by omega) (by omega)]
theorem pk_len (P : Int → Bool) (k : Nat) : (pk P k).length ≤ k := by
  induction k with
  | zero => simp [pk]
  | succ k ih =>
    unfold pk
    split
    · rw [List.length_append, List.length_singleton]; omega
    · omega
theorem pk_yes {P : Int → Bool} {k : Int} (h0 : 0 ≤ k) (h : P k = true) : pk P (k + 1).toNat = pk P k.toNat ++ [k] := by
  rw [show (k + 1).toNat = k.toNat + 1 by omega]
  show (if P (k.toNat : Int) then _ else _) = _
  rw [Int.toNat_of_nonneg h0, if_pos h]
theorem pk_no {P : Int → Bool} {k : Int} (h0 : 0 ≤ k) (h : P k = false) : pk P (k + 1).toNat = pk P k.toNat := by
  rw [show (k + 1).toNat = k.toNat + 1 by omega]
  show (if P (k.toNat : Int) then _ else _) = _
  rw [Int.toNat_of_nonneg h0, if_neg (by simp [h])]
theorem lF_snoc (l : List Int) (x : Int) (j : Int) (h0 : 0 ≤ j) (h1 : j < (l.length + 1 : Nat)) : upd (lF l) l.length x j = lF (l ++ [x]) j := by
  unfold upd lF
  by_cases e : j = (l.length : Int)
  · rw [if_pos e]
    subst e
    simp [List.getD_eq_getElem?_getD]
  · rw [if_neg e, List.getD_eq_getElem?_getD, List.getD_eq_getElem?_getD, List.getElem?_append_left (by omega)]
theorem lF_mem {l : List Int} {x : Int} : x ∈ l ↔ ∃ j : Int, 0 ≤ j ∧ j < l.length ∧ lF l j = x := by
  constructor
  · intro h
    obtain ⟨n, hn, rfl⟩ := List.getElem_of_mem h
    exact ⟨n, by omega, by omega, by unfold lF; rw [Int.toNat_natCast, List.getD_eq_getElem?_getD, List.getElem?_eq_getElem hn]; rfl⟩
  · rintro ⟨j, j0, j1, rfl⟩
    unfold lF
    rw [List.getD_eq_getElem?_getD, List.getElem?_eq_getElem (show j.toNat < l.length by omega)]
    exact List.getElem_mem _
theorem lF_ext {l l' : List Int} (h : l.length = l'.length) (e : ∀ j : Int, 0 ≤ j → j < l.length → lF l j = lF l' j) : l = l' := by
  apply List.ext_getElem h
  intro i h1 h2
  have := e i (by omega) (by omega)
  unfold lF at this
  rw [Int.toNat_natCast, List.getD_eq_getElem?_getD, List.getD_eq_getElem?_getD, List.getElem?_eq_getElem h1, List.getElem?_eq_getElem h2] at this
  exact this

/-- The parties that fail by payments. -/
def flg (n : Nat) (D : Int → Int → Int) (p : Int → Int) : List Int := pk (fun i => decide (p i < ow n D i)) n
theorem flg_congr {n : Nat} {D : Int → Int → Int} {p q : Int → Int} (h : ∀ i : Int, 0 ≤ i → i < n → p i = q i) : flg n D p = flg n D q :=
  pk_congr fun i i0 i1 => by rw [h i i0 i1]

/-- A wave: who fails if some have failed. -/
def wvP (n : Nat) (D : Int → Int → Int) (cash : Int → Int) (fl : Int → Bool) (p : Int → Int) (i : Int) : Bool := !fl i && decide (cash i + rcv n D p i < ow n D i)
open Classical in
noncomputable def best (n : Nat) (D : Int → Int → Int) (cash : Int → Int) (fl : Int → Bool) : Int → Int := if h : ∃ p, Clr n D cash fl p then Classical.choose h else fun _ => 0
noncomputable def wave (n : Nat) (D : Int → Int → Int) (cash : Int → Int) (fl : Int → Bool) : List Int := pk (wvP n D cash fl (best n D cash fl)) n
theorem best_eq {n : Nat} {D : Int → Int → Int} {cash : Int → Int} {fl : Int → Bool} {p : Int → Int} (h : Clr n D cash fl p) : ∀ i : Int, 0 ≤ i → i < n → best n D cash fl i = p i := by
  have hx : ∃ p, Clr n D cash fl p := ⟨p, h⟩
  unfold best
  rw [dif_pos hx]
  exact (Classical.choose_spec hx).uniq h
theorem wave_eq {n : Nat} {D : Int → Int → Int} {cash : Int → Int} {fl : Int → Bool} {p : Int → Int} (h : Clr n D cash fl p) : wave n D cash fl = pk (wvP n D cash fl p) n :=
  pk_congr fun i _ _ => by unfold wvP; rw [rcv_congr (best_eq h)]
open Classical in
noncomputable def fallen (n : Nat) (D : Int → Int → Int) (cash : Int → Int) : Nat → Int → Bool
  | 0 => fun _ => false
  | k + 1 => fun i => fallen n D cash k i || decide (i ∈ wave n D cash (fallen n D cash k))
noncomputable def wv (n : Nat) (D : Int → Int → Int) (cash : Int → Int) (k : Nat) : List Int := wave n D cash (fallen n D cash k)
theorem wave_congr {n : Nat} {D : Int → Int → Int} {cash : Int → Int} {fl fl' : Int → Bool} (h : ∀ i : Int, 0 ≤ i → i < n → fl i = fl' i) : wave n D cash fl = wave n D cash fl' := by
  by_cases hx : ∃ p, Clr n D cash fl p
  · obtain ⟨p, hp⟩ := hx
    rw [wave_eq hp, wave_eq (hp.congr h)]
    exact pk_congr fun i i0 i1 => by unfold wvP; rw [h i i0 i1]
  · have hx' : ¬ ∃ p, Clr n D cash fl' p := fun ⟨p, hp⟩ => hx ⟨p, hp.congr fun i i0 i1 => (h i i0 i1).symm⟩
    unfold wave best
    rw [dif_neg hx, dif_neg hx']
    exact pk_congr fun i i0 i1 => by unfold wvP; rw [h i i0 i1]
/-- The waves there are: all that are not empty. -/
structure Waved (n : Nat) (D : Int → Int → Int) (cash : Int → Int) (k : Nat) : Prop where
  some : ∀ j, j < k → wv n D cash j ≠ []
  none : wv n D cash k = []
theorem Waved.uniq {n : Nat} {D : Int → Int → Int} {cash : Int → Int} {k k' : Nat} (h : Waved n D cash k) (h' : Waved n D cash k') : k = k' := by
  by_cases h1 : k < k'
  · exact absurd h.none (h'.some k h1)
  · by_cases h2 : k' < k
    · exact absurd h'.none (h.some k' h2)
    · omega
end Go.Proofs.Ytiambddcpflkhaa
