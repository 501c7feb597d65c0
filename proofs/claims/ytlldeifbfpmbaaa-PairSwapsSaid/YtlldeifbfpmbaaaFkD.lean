import Derived.Test.YtlldeifbfpmbaaaFkC
set_option maxRecDepth 100000
namespace Go.Proofs.Ytlldeifbfpmbaaa
open Go.RowKit Go.Proofs Go.MapKept
theorem RO.addO {W : Wish} {gone gone' : Int → Bool} {o : Int → Int} {nr : Nat} {L : Int → Nat} {R : Int → Int → Int} (h : RO W gone o nr L R) {m : Nat} {x : Int → Int} (hm : 1 ≤ m) (hxr : ∀ k : Int, 0 ≤ k → k < m → (0 ≤ x k ∧ x k < W.n) ∧ gone (x k) = false)
  (hxd : ∀ a b : Int, 0 ≤ a → a < m → 0 ≤ b → b < m → x a = x b → a = b) (hxc : ∀ k : Int, 0 ≤ k → k < m → o (x k) = x (Wish.nxt m k)) (hmin : ∀ k : Int, 0 ≤ k → k < m → x 0 ≤ x k)
  (hg : ∀ y : Int, 0 ≤ y → y < W.n → (gone' y = true ↔ gone y = true ∨ ∃ j : Int, 0 ≤ j ∧ j < m ∧ x j = y)) : RO W gone' o (nr + 1) (updN L nr m) (updR R nr x) := by
 have hL : ∀ r : Int, r ≠ nr → updN L nr m r = L r := fun r e => if_neg e
 have hL' : updN L nr m nr = m := if_pos rfl
 have hX : ∀ r : Int, r ≠ nr → updR R nr x r = R r := fun r e => if_neg e
 have hX' : updR R nr x nr = x := if_pos rfl
 refine ⟨fun r r0 r1 => ?_, fun r k r0 r1 k0 k1 => ?_, fun r k r0 r1 k0 k1 => ?_, fun y y0 y1 hy => ?_, fun r k r' k' r0 r1 k0 k1 r0' r1' k0' k1' e => ?_, fun r k r0 r1 k0 k1 => ?_⟩
 ·by_cases c : r = nr
  ·rw [c, hL']; omega
  ·rw [hL r c]; exact h.pos r r0 (by omega)
 ·by_cases c : r = nr
  ·rw [c, hL'] at k1
   rw [c, hX']
   obtain ⟨p1, p2⟩ := hxr k k0 k1
   exact ⟨p1, (hg _ p1.1 p1.2).2 (.inr ⟨k, k0, k1, rfl⟩)⟩
  ·rw [hL r c] at k1
   rw [hX r c]
   obtain ⟨p1, p2⟩ := h.rng r k r0 (by omega) k0 k1
   exact ⟨p1, (hg _ p1.1 p1.2).2 (.inl p2)⟩
 ·by_cases c : r = nr
  ·rw [c, hL'] at k1
   rw [c, hX', hL']; exact hxc k k0 k1
  ·rw [hL r c] at k1
   rw [hX r c, hL r c]
   exact h.cyc r k r0 (by omega) k0 k1
 ·rcases (hg y y0 y1).1 hy with hy | ⟨j, j0, j1, e⟩
  ·obtain ⟨r, k, ⟨r0, r1⟩, hk, e⟩ := h.cov y y0 y1 hy
   exact ⟨r, k, ⟨r0, by omega⟩, by rw [hL r (by omega)]; exact hk, by rw [hX r (by omega)]; exact e⟩
  ·exact ⟨nr, j, ⟨by omega, by omega⟩, by rw [hL']; exact ⟨j0, j1⟩, by rw [hX']; exact e⟩
 ·by_cases c : r = nr <;> by_cases d : r' = nr
  ·rw [c, hL'] at k1
   rw [d, hL'] at k1'
   rw [c, d, hX'] at e
   exact ⟨by omega, hxd k k' k0 k1 k0' k1' e⟩
  ·rw [c, hL'] at k1
   rw [hL r' d] at k1'
   rw [c, hX', hX r' d] at e
   have := (h.rng r' k' r0' (by omega) k0' k1').2
   rw [← e, (hxr k k0 k1).2] at this
   exact Bool.noConfusion this
  ·rw [d, hL'] at k1'
   rw [hL r c] at k1
   rw [d, hX', hX r c] at e
   have := (h.rng r k r0 (by omega) k0 k1).2
   rw [e, (hxr k' k0' k1').2] at this
   exact Bool.noConfusion this
  ·rw [hL r c] at k1
   rw [hL r' d] at k1'
   rw [hX r c, hX r' d] at e
   exact h.dis r k r' k' r0 (by omega) k0 k1 r0' (by omega) k0' k1' e
 ·by_cases c : r = nr
  ·rw [c, hL'] at k1
   rw [c, hX']; exact hmin k k0 k1
  ·rw [hL r c] at k1
   rw [hX r c]; exact h.min r k r0 (by omega) k0 k1
def Rise (nr : Nat) (R : Int → Int → Int) : Prop := ∀ r s : Int, 0 ≤ r → r < s → s < nr → R r 0 < R s 0
theorem rise_of {nr : Nat} {R : Int → Int → Int} (h : ∀ r : Int, 0 ≤ r → r + 1 < nr → R r 0 < R (r + 1) 0) : Rise nr R := fun r s r0 hrs hs => by
 obtain ⟨d, rfl⟩ : ∃ d : Nat, s = r + 1 + d := ⟨(s - r - 1).toNat, by omega⟩
 clear hrs
 induction d with
 | zero => rw [show r + 1 + ((0 : Nat) : Int) = r + 1 by omega] at hs ⊢; exact h r r0 hs
 | succ d ih =>
  have h1 := ih (by omega)
  have h2 := h (r + 1 + d) (by omega) (by omega)
  rw [show r + 1 + ((d + 1 : Nat) : Int) = r + 1 + d + 1 by omega]
  omega
theorem RO.first {W W' : Wish} {g g' : Int → Bool} {o : Int → Int} {nr nr' : Nat} {L L' : Int → Nat} {R R' : Int → Int → Int} (h : RO W g o nr L R) (h' : RO W' g' o nr' L' R') (hn : W.n = W'.n) (hg' : ∀ x : Int, 0 ≤ x → x < W.n → g' x = true) {r : Int} (r0 : 0 ≤ r) (r1 : r < nr) : ∃ r' : Int, (0 ≤ r' ∧ r' < nr') ∧ R' r' 0 = R r 0 := by
 have hp := h.pos r r0 r1
 have hx := (h.rng r 0 r0 r1 (Int.le_refl _) (by omega)).1
 obtain ⟨r', k', hr', hk', e⟩ := h'.cov (R r 0) hx.1 (by omega) (hg' _ hx.1 hx.2)
 have hmin' := h'.min r' k' hr'.1 hr'.2 hk'.1 hk'.2
 have key : ∀ d : Nat, k' + d < L' r' → ∃ k : Int, (0 ≤ k ∧ k < L r) ∧ R r k = R' r' (k' + d) := fun d => by
  induction d with
  | zero => intro _; exact ⟨0, ⟨Int.le_refl _, by omega⟩, by rw [show k' + ((0 : Nat) : Int) = k' by omega, e]⟩
  | succ d ih =>
   intro hd
   obtain ⟨k, hk, e2⟩ := ih (by omega)
   have c1 := h.cyc r k r0 r1 hk.1 hk.2
   have c2 := h'.cyc r' (k' + d) hr'.1 hr'.2 (by omega) (by omega)
   have hnx : Wish.nxt (L' r') (k' + d) = k' + (d + 1 : Nat) := by unfold Wish.nxt; rw [if_neg (by omega)]; omega
   rw [hnx] at c2
   exact ⟨_, Wish.nxt_rng hk.1 hk.2, by rw [← c2, ← e2, c1]⟩
 obtain ⟨k, hk, e2⟩ := key (L' r' - 1 - k').toNat (by omega)
 rw [show k' + ((L' r' - 1 - k').toNat : Int) = L' r' - 1 by omega] at e2
 have c1 := h.cyc r k r0 r1 hk.1 hk.2
 have c2 := h'.cyc r' (L' r' - 1) hr'.1 hr'.2 (by omega) (by omega)
 have hnx : Wish.nxt (L' r') (L' r' - 1) = 0 := by unfold Wish.nxt; rw [if_pos (by omega)]
 rw [hnx, ← e2, c1] at c2
 have hmin := h.min r _ r0 r1 (Wish.nxt_rng hk.1 hk.2).1 (Wish.nxt_rng hk.1 hk.2).2
 exact ⟨r', hr', by omega⟩
theorem rise_eq {n m : Nat} {a b : Int → Int} (ha : ∀ r s : Int, 0 ≤ r → r < s → s < n → a r < a s) (hb : ∀ r s : Int, 0 ≤ r → r < s → s < m → b r < b s) (h1 : ∀ r : Int, 0 ≤ r → r < n → ∃ s : Int, (0 ≤ s ∧ s < m) ∧ b s = a r) (h2 : ∀ r : Int, 0 ≤ r → r < m → ∃ s : Int, (0 ≤ s ∧ s < n) ∧ a s = b r) : n = m ∧ ∀ r : Int, 0 ≤ r → r < n → a r = b r := by
 have key : ∀ i : Nat, (∀ j : Nat, j < i → j < n → j < m ∧ a j = b j) ∧ (∀ j : Nat, j < i → j < m → j < n) := fun i => by
  induction i with
  | zero => exact ⟨fun j h => by omega, fun j h => by omega⟩
  | succ i ih =>
   obtain ⟨ih1, ih2⟩ := ih
   have hin : i < n → i < m ∧ b i ≤ a i := fun hi => by
    obtain ⟨s, hs, e⟩ := h1 i (by omega) (by omega)
    have hsi : ¬ s < i := fun hlt => by
     have h3 := (ih1 s.toNat (by omega) (by omega)).2
     rw [show ((s.toNat : Nat) : Int) = s by omega] at h3
     have h4 := ha s i hs.1 hlt (by omega)
     omega
    refine ⟨by omega, ?_⟩
    by_cases c : s = i
    ·rw [← c, e, c]; exact Int.le_refl _
    ·have := hb i s (by omega) (by omega) hs.2
     omega
   have him : i < m → i < n ∧ a i ≤ b i := fun hi => by
    obtain ⟨s, hs, e⟩ := h2 i (by omega) (by omega)
    have hsi : ¬ s < i := fun hlt => by
     have h3 := (ih1 s.toNat (by omega) (by omega)).2
     rw [show ((s.toNat : Nat) : Int) = s by omega] at h3
     have h5 := (ih1 s.toNat (by omega) (by omega)).1
     have h4 := hb s i hs.1 hlt (by omega)
     omega
    refine ⟨by omega, ?_⟩
    by_cases c : s = i
    ·rw [← c, e, c]; exact Int.le_refl _
    ·have := ha i s (by omega) (by omega) hs.2
     omega
   refine ⟨fun j hj hjn => ?_, fun j hj hjm => ?_⟩
   ·by_cases c : j = i
    ·rw [c] at hjn ⊢
     obtain ⟨p1, p2⟩ := hin hjn
     have := (him p1).2
     exact ⟨p1, by omega⟩
    ·exact ih1 j (by omega) hjn
   ·by_cases c : j = i
    ·rw [c] at hjm ⊢; exact (him hjm).1
    ·exact ih2 j (by omega) hjm
 obtain ⟨k1, k2⟩ := key (n + m + 1)
 refine ⟨?_, fun r r0 r1 => by have := (k1 r.toNat (by omega) (by omega)).2; rw [show ((r.toNat : Nat) : Int) = r by omega] at this; exact this⟩
 rcases Nat.lt_trichotomy n m with h | h | h
 ·have := k2 n (by omega) h; omega
 ·exact h
 ·have := (k1 m (by omega) h).1; omega
theorem RO.uniq {W W' : Wish} {g g' : Int → Bool} {o : Int → Int} {nr nr' : Nat} {L L' : Int → Nat} {R R' : Int → Int → Int} (h : RO W g o nr L R) (h' : RO W' g' o nr' L' R') (hn : W.n = W'.n) (hg : ∀ x : Int, 0 ≤ x → x < W.n → g x = true) (hg' : ∀ x : Int, 0 ≤ x → x < W.n → g' x = true) (hs : Rise nr R) (hs' : Rise nr' R') :
  nr = nr' ∧ ∀ r : Int, 0 ≤ r → r < nr → L r = L' r ∧ ∀ k : Int, 0 ≤ k → k < L r → R r k = R' r k := by
 obtain ⟨e1, e2⟩ := rise_eq (a := fun r => R r 0) (b := fun r => R' r 0) hs hs' (fun r r0 r1 => h.first h' hn hg' r0 r1) (fun r r0 r1 => h'.first h hn.symm (fun x x0 x1 => hg x x0 (by omega)) r0 r1)
 refine ⟨e1, fun r r0 r1 => ?_⟩
 have r1' : r < nr' := by omega
 have hp := h.pos r r0 r1
 have hp' := h'.pos r r0 r1'
 have key : ∀ k : Nat, k < L r → k < L' r → R r k = R' r k := fun k => by
  induction k with
  | zero => intro _ _; exact e2 r r0 r1
  | succ k ih =>
   intro hk hk'
   have c1 := h.cyc r k r0 r1 (by omega) (by omega)
   have c2 := h'.cyc r k r0 r1' (by omega) (by omega)
   have n1 : Wish.nxt (L r) k = ((k + 1 : Nat) : Int) := by unfold Wish.nxt; rw [if_neg (by omega)]; omega
   have n2 : Wish.nxt (L' r) k = ((k + 1 : Nat) : Int) := by unfold Wish.nxt; rw [if_neg (by omega)]; omega
   rw [n1] at c1
   rw [n2] at c2
   rw [← c1, ← c2, ih (by omega) (by omega)]
 have hL : L r = L' r := by
  have e0 : R r 0 = R' r 0 := e2 r r0 r1
  rcases Nat.lt_trichotomy (L r) (L' r) with hlt | hlt | hlt
  ·exfalso
   have k1 := key (L r - 1) (by omega) (by omega)
   rw [show ((L r - 1 : Nat) : Int) = (L r : Int) - 1 by omega] at k1
   have c1 := h.cyc r ((L r : Int) - 1) r0 r1 (by omega) (by omega)
   have c2 := h'.cyc r ((L r : Int) - 1) r0 r1' (by omega) (by omega)
   rw [show Wish.nxt (L r) ((L r : Int) - 1) = 0 by unfold Wish.nxt; rw [if_pos (by omega)]] at c1
   rw [show Wish.nxt (L' r) ((L r : Int) - 1) = L r by unfold Wish.nxt; rw [if_neg (by omega)]; omega, ← k1, c1, e0] at c2
   have := (h'.dis r 0 r (L r) r0 r1' (Int.le_refl _) (by omega) r0 r1' (by omega) (by omega) c2).2
   omega
  ·exact hlt
  ·exfalso
   have k1 := key (L' r - 1) (by omega) (by omega)
   rw [show ((L' r - 1 : Nat) : Int) = (L' r : Int) - 1 by omega] at k1
   have c1 := h'.cyc r ((L' r : Int) - 1) r0 r1' (by omega) (by omega)
   have c2 := h.cyc r ((L' r : Int) - 1) r0 r1 (by omega) (by omega)
   rw [show Wish.nxt (L' r) ((L' r : Int) - 1) = 0 by unfold Wish.nxt; rw [if_pos (by omega)]] at c1
   rw [show Wish.nxt (L r) ((L' r : Int) - 1) = L' r by unfold Wish.nxt; rw [if_neg (by omega)]; omega, k1, c1, ← e0] at c2
   have := (h.dis r 0 r (L' r) r0 r1 (Int.le_refl _) (by omega) r0 r1 (by omega) (by omega) c2).2
   omega
 refine ⟨hL, fun k k0 k1 => ?_⟩
 have := key k.toNat (by omega) (by omega)
 rw [show ((k.toNat : Nat) : Int) = k by omega] at this
 exact this
end Go.Proofs.Ytlldeifbfpmbaaa
