import Derived.Test.YtbepolognfdkeaaGreatFcD
set_option maxRecDepth 100000
namespace Go.Proofs.YtbepolognfdkeaaGreat
open Go.RowKit Go.Proofs Go.MapKept
theorem wishOf_ok {n : Nat} {L : Int → Nat} {E : Int → Int → Int} (h : ∀ i : Int, 0 ≤ i → i < n → IsL (L i) (E i) n) : (wishOf n L E).Ok := by
 have hl : ∀ i, ((wishOf n L E).l i : Int) = rk (E i) (L i) i + 1 := fun i => by
  have := rk_rng (E i) i (L i)
  show (((rk (E i) (L i) i).toNat + 1 : Nat) : Int) = _
  omega
 refine ⟨fun i _ _ => by have := hl i; have := (rk_rng (E i) i (L i)).1; omega, fun i k i0 i1 k0 k1 => ?_, fun i i0 i1 a b a0 a1 b0 b1 e => ?_, fun i i0 i1 => ?_⟩
 ·rw [hl] at k1
  have hr := rk_rng (E i) i (L i)
  show 0 ≤ (if k < rk (E i) (L i) i then E i k else i) ∧ (if k < rk (E i) (L i) i then E i k else i) < n
  split
  ·exact (h i i0 i1).1 k k0 (by omega)
  ·exact ⟨i0, i1⟩
 ·rw [hl] at a1 b1
  have hr := rk_rng (E i) i (L i)
  have e' : (if a < rk (E i) (L i) i then E i a else i) = (if b < rk (E i) (L i) i then E i b else i) := e
  by_cases c : a < rk (E i) (L i) i <;> by_cases d : b < rk (E i) (L i) i
  ·rw [if_pos c, if_pos d] at e'; exact (h i i0 i1).2 a b a0 (by omega) b0 (by omega) e'
  ·rw [if_pos c, if_neg d] at e'; exact absurd e' (rk_ne (n := L i) a0 c)
  ·rw [if_neg c, if_pos d] at e'; exact absurd e'.symm (rk_ne (n := L i) b0 d)
  ·omega
 ·rw [hl]
  show (if rk (E i) (L i) i + 1 - 1 < rk (E i) (L i) i then E i _ else i) = i
  rw [if_neg (by omega)]
structure RO (W : Wish) (gone : Int → Bool) (o : Int → Int) (nr : Nat) (L : Int → Nat) (R : Int → Int → Int) : Prop where
 pos : ∀ r : Int, 0 ≤ r → r < nr → 1 ≤ L r
 rng : ∀ r k : Int, 0 ≤ r → r < nr → 0 ≤ k → k < L r → (0 ≤ R r k ∧ R r k < W.n) ∧ gone (R r k) = true
 cyc : ∀ r k : Int, 0 ≤ r → r < nr → 0 ≤ k → k < L r → o (R r k) = R r (Wish.nxt (L r) k)
 cov : ∀ x : Int, 0 ≤ x → x < W.n → gone x = true → ∃ r k : Int, (0 ≤ r ∧ r < nr) ∧ (0 ≤ k ∧ k < L r) ∧ R r k = x
 dis : ∀ r k r' k' : Int, 0 ≤ r → r < nr → 0 ≤ k → k < L r → 0 ≤ r' → r' < nr → 0 ≤ k' → k' < L r' → R r k = R r' k' → r = r' ∧ k = k'
 min : ∀ r k : Int, 0 ≤ r → r < nr → 0 ≤ k → k < L r → R r 0 ≤ R r k
theorem RO.init (W : Wish) (o : Int → Int) (L : Int → Nat) (R : Int → Int → Int) : RO W (fun _ => false) o 0 L R :=
 ⟨fun r r0 r1 => by omega, fun r k r0 r1 => by omega, fun r k r0 r1 => by omega, fun x _ _ h => Bool.noConfusion h, fun r k r' k' r0 r1 => by omega, fun r k r0 r1 => by omega⟩
def updR (R : Int → Int → Int) (nr : Int) (x : Int → Int) : Int → Int → Int := fun r => if r = nr then x else R r
theorem RO.add {W : Wish} {gone gone' : Int → Bool} {o : Int → Int} {nr : Nat} {L : Int → Nat} {R : Int → Int → Int} (h : RO W gone o nr L R) {m : Nat} {x : Int → Int} (hR : W.Ring gone m x) (hmin : ∀ k : Int, 0 ≤ k → k < m → x 0 ≤ x k)
  (hg : ∀ y : Int, 0 ≤ y → y < W.n → (gone' y = true ↔ gone y = true ∨ ∃ j : Int, 0 ≤ j ∧ j < m ∧ x j = y)) : RO W gone' (Wish.oR gone o m x) (nr + 1) (updN L nr m) (updR R nr x) := by
 have hpos := hR.pos
 have hL : ∀ r : Int, r ≠ nr → updN L nr m r = L r := fun r e => if_neg e
 have hL' : updN L nr m nr = m := if_pos rfl
 have hX : ∀ r : Int, r ≠ nr → updR R nr x r = R r := fun r e => if_neg e
 have hX' : updR R nr x nr = x := if_pos rfl
 have hold : ∀ y, gone y = true → Wish.oR gone o m x y = o y := fun y hy => if_pos hy
 refine ⟨fun r r0 r1 => ?_, fun r k r0 r1 k0 k1 => ?_, fun r k r0 r1 k0 k1 => ?_, fun y y0 y1 hy => ?_, fun r k r' k' r0 r1 k0 k1 r0' r1' k0' k1' e => ?_, fun r k r0 r1 k0 k1 => ?_⟩
 ·by_cases c : r = nr
  ·rw [c, hL']; omega
  ·rw [hL r c]; exact h.pos r r0 (by omega)
 ·by_cases c : r = nr
  ·rw [c, hL'] at k1
   rw [c, hX']
   obtain ⟨p1, p2⟩ := hR.rng k k0 k1
   exact ⟨p1, (hg _ p1.1 p1.2).2 (.inr ⟨k, k0, k1, rfl⟩)⟩
  ·rw [hL r c] at k1
   rw [hX r c]
   obtain ⟨p1, p2⟩ := h.rng r k r0 (by omega) k0 k1
   exact ⟨p1, (hg _ p1.1 p1.2).2 (.inl p2)⟩
 ·by_cases c : r = nr
  ·rw [c, hL'] at k1
   rw [c, hX', hL', Wish.oR_at hR k0 k1]
  ·rw [hL r c] at k1
   rw [hX r c, hL r c, hold _ (h.rng r k r0 (by omega) k0 k1).2]
   exact h.cyc r k r0 (by omega) k0 k1
 ·rcases (hg y y0 y1).1 hy with hy | ⟨j, j0, j1, e⟩
  ·obtain ⟨r, k, ⟨r0, r1⟩, hk, e⟩ := h.cov y y0 y1 hy
   exact ⟨r, k, ⟨r0, by omega⟩, by rw [hL r (by omega)]; exact hk, by rw [hX r (by omega)]; exact e⟩
  ·exact ⟨nr, j, ⟨by omega, by omega⟩, by rw [hL']; exact ⟨j0, j1⟩, by rw [hX']; exact e⟩
 ·by_cases c : r = nr <;> by_cases d : r' = nr
  ·rw [c, hL'] at k1
   rw [d, hL'] at k1'
   rw [c, d, hX'] at e
   exact ⟨by omega, hR.dis k k' k0 k1 k0' k1' e⟩
  ·rw [c, hL'] at k1
   rw [hL r' d] at k1'
   rw [c, hX', hX r' d] at e
   have := (h.rng r' k' r0' (by omega) k0' k1').2
   rw [← e, (hR.rng k k0 k1).2] at this
   exact Bool.noConfusion this
  ·rw [d, hL'] at k1'
   rw [hL r c] at k1
   rw [d, hX', hX r c] at e
   have := (h.rng r k r0 (by omega) k0 k1).2
   rw [e, (hR.rng k' k0' k1').2] at this
   exact Bool.noConfusion this
  ·rw [hL r c] at k1
   rw [hL r' d] at k1'
   rw [hX r c, hX r' d] at e
   exact h.dis r k r' k' r0 (by omega) k0 k1 r0' (by omega) k0' k1' e
 ·by_cases c : r = nr
  ·rw [c, hL'] at k1
   rw [c, hX']; exact hmin k k0 k1
  ·rw [hL r c] at k1
   rw [hX r c]; exact h.min r k r0 (by omega) k0 k1
theorem RO.short {W : Wish} {gone : Int → Bool} {o : Int → Int} {nr : Nat} {L : Int → Nat} {R : Int → Int → Int} (h : RO W gone o nr L R) : nr ≤ W.n :=
 pigeon (e := fun r => R r 0) (fun r r0 r1 => (h.rng r 0 r0 r1 (Int.le_refl _) (by have := h.pos r r0 r1; omega)).1) fun a b a0 a1 b0 b1 e => (h.dis a 0 b 0 a0 a1 (Int.le_refl _) (by have := h.pos a a0 a1; omega) b0 b1 (Int.le_refl _) (by have := h.pos b b0 b1; omega) e).1
def wrow (rb cp : Int → Nat) (G : Int → Int → Value) (i : Nat) : Option Blk := some (vch (rb i) 3 (cp i) (G i))
theorem rows5_of {W : Wish} {rb cp : Int → Nat} {G : Int → Int → Value} (h1 : ∀ i : Int, 0 ≤ i → i < W.n → W.l i ≤ cp i ∧ cp i ≤ maxLen) (h2 : ∀ i k : Int, 0 ≤ i → i < W.n → 0 ≤ k → k < W.l i → G i k = iv (W.e i k)) : Rows5 W rb cp ((List.range W.n).map (wrow rb cp G)) := by
 refine ⟨h1, fun B w0 w hO i k i0 i1 k0 k1 => ?_⟩
 obtain ⟨q, rfl⟩ := Int.eq_ofNat_of_zero_le i0
 have hk : ((List.range W.n).map (wrow rb cp G))[q]? = some (some (vch (rb q) 3 (cp q) (G q))) := by
  have : q < W.n := by omega
  simp [wrow, this]
 have := hO.cellI q hk k k0 (by have := (h1 q i0 i1).1; omega)
 rw [this, h2 q k i0 i1 k0 k1]
end Go.Proofs.YtbepolognfdkeaaGreat
