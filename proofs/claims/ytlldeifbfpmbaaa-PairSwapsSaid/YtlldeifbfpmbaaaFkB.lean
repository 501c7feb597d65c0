import Derived.Test.YtlldeifbfpmbaaaFkA
set_option maxRecDepth 100000
namespace Go.Proofs.Ytlldeifbfpmbaaa
open Go.RowKit Go.Proofs
def itr (p : Int → Int) (x : Int) : Nat → Int
 | 0 => x
 | k + 1 => p (itr p x k)
theorem itr_add (p : Int → Int) (x : Int) (a : Nat) : ∀ b : Nat, itr p x (a + b) = itr p (itr p x a) b
 | 0 => rfl
 | b + 1 => by
  show p (itr p x (a + b)) = p (itr p (itr p x a) b)
  rw [itr_add p x a b]
theorem itr_per {p : Int → Int} {x : Int} {a b : Nat} (h : itr p x a = itr p x b) (j : Nat) : itr p x (a + j) = itr p x (b + j) := by
 rw [itr_add, itr_add, h]
def gn (out : Int → Int) (i : Int) : Bool := decide (0 ≤ out i)
theorem gn_t {out : Int → Int} {i : Int} : gn out i = true ↔ 0 ≤ out i := decide_eq_true_iff
theorem gn_f {out : Int → Int} {i : Int} : gn out i = false ↔ out i < 0 := by unfold gn; rw [decide_eq_false_iff_not]; omega
namespace Wish
def Pts (W : Wish) (gone : Int → Bool) (p : Int → Int) : Prop := ∀ i : Int, 0 ≤ i → i < W.n → gone i = false → W.Top gone i (p i)
theorem Pts.at {W : Wish} (hW : W.Ok) {gone : Int → Bool} {p : Int → Int} (h : W.Pts gone p) {x : Int} (x0 : 0 ≤ x) (x1 : x < W.n) (hx : gone x = false) : ∀ j : Nat, (0 ≤ itr p x j ∧ itr p x j < W.n) ∧ gone (itr p x j) = false
 | 0 => ⟨⟨x0, x1⟩, hx⟩
 | j + 1 => by
  have ih := h.at hW x0 x1 hx j
  exact (h _ ih.1.1 ih.1.2 ih.2).rng hW ih.1.1 ih.1.2
theorem Pts.back {W : Wish} (hW : W.Ok) {gone : Int → Bool} {p : Int → Int} (h : W.Pts gone p) {x : Int} (x0 : 0 ≤ x) (x1 : x < W.n) (hx : gone x = false) : ∃ d : Nat, 1 ≤ d ∧ itr p (itr p x W.n) d = itr p x W.n := by
 have hex : ∃ a b : Nat, a < b ∧ b ≤ W.n ∧ itr p x a = itr p x b := Classical.byContradiction fun hno => by
  have := pigeon (n := W.n + 1) (m := W.n) (e := fun k => itr p x k.toNat) (fun k k0 k1 => (h.at hW x0 x1 hx k.toNat).1) fun a b a0 a1 b0 b1 e => Classical.byContradiction fun hne => by
   rcases Int.lt_or_gt_of_ne hne with hlt | hlt
   ·exact hno ⟨a.toNat, b.toNat, by omega, by omega, e⟩
   ·exact hno ⟨b.toNat, a.toNat, by omega, by omega, e.symm⟩
  omega
 obtain ⟨a, b, hab, hb, e⟩ := hex
 refine ⟨b - a, by omega, ?_⟩
 rw [← itr_add]
 have := itr_per e (W.n - a)
 rw [show a + (W.n - a) = W.n by omega, show b + (W.n - a) = W.n + (b - a) by omega] at this
 exact this.symm
theorem itr_mul {p : Int → Int} {x : Int} {d : Nat} (h : itr p x d = x) : ∀ m : Nat, itr p x (d * m) = x
 | 0 => rfl
 | m + 1 => by rw [Nat.mul_succ, itr_add, itr_mul h m, h]
theorem back_zero {p : Int → Int} {x : Int} {d J a : Nat} (d1 : 1 ≤ d) (hd : itr p x d = x) (haJ : a < J) (hJ : itr p x J = itr p x a) (hdis : ∀ i j : Nat, i < J → j < J → itr p x i = itr p x j → i = j) : a = 0 := by
 have key : ∀ s : Nat, ∃ i : Nat, a ≤ i ∧ i < J ∧ itr p x (a + s) = itr p x i := fun s => by
  induction s with
  | zero => exact ⟨a, Nat.le_refl _, haJ, rfl⟩
  | succ s ih =>
   obtain ⟨i, i0, i1, e⟩ := ih
   have e2 : itr p x (a + (s + 1)) = itr p x (i + 1) := by
    show p (itr p x (a + s)) = p (itr p x i)
    rw [e]
   by_cases c : i + 1 = J
   ·exact ⟨a, Nat.le_refl _, haJ, by rw [e2, c, hJ]⟩
   ·exact ⟨i + 1, by omega, by omega, e2⟩
 have hm : a ≤ d * a := Nat.le_mul_of_pos_left a (by omega)
 obtain ⟨i, i0, i1, e⟩ := key (d * a - a)
 rw [show a + (d * a - a) = d * a by omega, itr_mul hd a] at e
 have := hdis 0 i (by omega) i1 e
 omega
theorem Pts.ring {W : Wish} (hW : W.Ok) {gone : Int → Bool} {p : Int → Int} (h : W.Pts gone p) {x : Int} (x0 : 0 ≤ x) (x1 : x < W.n) (hx : gone x = false) {d J : Nat} (d1 : 1 ≤ d) (hd : itr p x d = x) {a : Nat} (haJ : a < J) (hJ : itr p x J = itr p x a) (hdis : ∀ i j : Nat, i < J → j < J → itr p x i = itr p x j → i = j) : W.Ring gone J (fun j => itr p x j.toNat) := by
 obtain rfl := back_zero d1 hd haJ hJ hdis
 refine ⟨by omega, fun j j0 j1 => h.at hW x0 x1 hx _, fun a b a0 a1 b0 b1 e => by have := hdis a.toNat b.toNat (by omega) (by omega) e; omega, fun j j0 j1 => ?_⟩
 have h1 := h.at hW x0 x1 hx j.toNat
 have h2 := h _ h1.1.1 h1.1.2 h1.2
 have e : p (itr p x j.toNat) = itr p x (nxt J j).toNat := by
  show itr p x (j.toNat + 1) = _
  unfold nxt
  split
  ·rename_i e; rw [show j.toNat + 1 = J by omega, hJ]; rfl
  ·rw [show (j + 1).toNat = j.toNat + 1 by omega]
 rw [e] at h2
 exact h2
end Wish
theorem top_of {n : Nat} {L : Int → Nat} {E : Int → Int → Int} (hs : SwapOk n L E) {gone : Int → Bool} {i b : Int} (i0 : 0 ≤ i) (i1 : i < n) (hb : gone b = false) (hle : lik5 L E i b ≤ lik5 L E i i)
  (hmin : ∀ k : Int, 0 ≤ k → k < n → gone k = false → lik5 L E i b ≤ lik5 L E i k) : (wishOf n L E).Top gone i b := by
 have hr := rk_rng (E i) i (L i)
 have hrb := rk_rng (E i) b (L i)
 have hii : lik5 L E i i = rk (E i) (L i) i := if_pos rfl
 have hq : lik5 L E i b = rk (E i) (L i) i ∧ b = i ∨ b ≠ i ∧ rk (E i) (L i) b < rk (E i) (L i) i ∧ lik5 L E i b = rk (E i) (L i) b := by
  by_cases c : b = i
  ·left; exact ⟨by rw [c]; exact hii, c⟩
  ·right
   rw [hii] at hle
   unfold lik5 at hle ⊢
   rw [if_neg c] at hle ⊢
   by_cases e : rk (E i) (L i) b < rk (E i) (L i) i
   ·rw [if_pos e]; exact ⟨c, e, rfl⟩
   ·rw [if_neg e] at hle; omega
 refine ⟨lik5 L E i b, by omega, by show lik5 L E i b < (((rk (E i) (L i) i).toNat + 1 : Nat) : Int); omega, fun k k0 k1 => ?_, ?_⟩
 ·have hka : k < rk (E i) (L i) i := by omega
  have he : (wishOf n L E).e i k = E i k := if_pos hka
  rw [he]
  have hE := (hs i i0 i1).1 k k0 (by omega)
  have hrk : rk (E i) (L i) (E i k) = k := rk_of (hs i i0 i1).2 k0 (by omega) rfl
  have hne : E i k ≠ i := rk_ne (n := L i) k0 hka
  have hlk : lik5 L E i (E i k) = k := by
   unfold lik5
   rw [if_neg hne, hrk, if_pos hka]
  cases hg : gone (E i k)
  ·have := hmin _ hE.1 hE.2 hg
   omega
  ·rfl
 ·have he : (wishOf n L E).e i (lik5 L E i b) = b := by
   show (if lik5 L E i b < rk (E i) (L i) i then E i (lik5 L E i b) else i) = b
   rcases hq with ⟨h1, h2⟩ | ⟨h1, h2, h3⟩
   ·rw [if_neg (by omega), h2]
   ·rw [h3, if_pos h2]; exact rk_at (by omega)
  rw [he]
  exact ⟨hb, rfl⟩
def lft (out : Int → Int) (n : Int) : Int := sm (fun i => if 0 ≤ out i then 0 else 1) n
theorem lft_nonneg (out : Int → Int) (n : Int) : 0 ≤ lft out n := sm_nonneg fun i _ _ => by split <;> omega
theorem lft_le {out : Int → Int} {n : Int} (n0 : 0 ≤ n) : lft out n ≤ n := by
 have := sm_bound (f := fun i => if 0 ≤ out i then (0 : Int) else 1) (k := n) 1 n0 fun i _ _ => by split <;> omega
 unfold lft
 omega
theorem lft_upd {out : Int → Int} {n a v : Int} (a0 : 0 ≤ a) (a1 : a < n) (h : out a < 0) (hv : 0 ≤ v) : lft (upd out a v) n = lft out n - 1 := by
 unfold lft
 have e : (fun i => if 0 ≤ upd out a v i then (0 : Int) else 1) = upd (fun i => if 0 ≤ out i then 0 else 1) a 0 := by
  funext i
  unfold upd
  by_cases c : i = a
  ·rw [if_pos c, if_pos c, if_pos hv]
  ·rw [if_neg c, if_neg c]
 rw [e, sm_upd _ _ _ a0 a1, if_neg (by omega)]
 omega
theorem lft_pos {out : Int → Int} {n : Int} (h : ∀ i : Int, 0 ≤ i → i < n → 0 ≤ out i) (n0 : 0 ≤ n) : lft out n = 0 := by
 unfold lft
 rw [sm_congr (g := fun _ => 0) fun i i0 i1 => if_pos (h i i0 i1), sm_const 0 n0]
 omega
theorem lft_zero {out : Int → Int} {n : Int} (h : lft out n ≤ 0) : ∀ i : Int, 0 ≤ i → i < n → 0 ≤ out i := fun i i0 i1 => Classical.byContradiction fun hn => by
 have := sm_pos (f := fun i => if 0 ≤ out i then (0 : Int) else 1) (k := n) (fun i _ _ => by split <;> omega) i i0 i1
 unfold lft at h
 rw [if_neg hn] at this
 omega
structure CoreSt (W : Wish) (out : Int → Int) : Prop where
 rng : ∀ i : Int, 0 ≤ i → i < W.n → -1 ≤ out i ∧ out i < W.n
 ts : ∃ (o t : Int → Int) (c : Int), W.TS (gn out) o t c ∧ ∀ i : Int, 0 ≤ i → i < W.n → 0 ≤ out i → out i = o i
theorem CoreSt.init (W : Wish) (_ : W.Ok) (out : Int → Int) (h : ∀ i : Int, 0 ≤ i → i < W.n → out i = -1) : CoreSt W out := by
 refine ⟨fun i i0 i1 => by have := h i i0 i1; omega, fun _ => 0, fun _ => 0, 0, ?_, fun i i0 i1 hi => by have := h i i0 i1; omega⟩
 have hg : ∀ i : Int, 0 ≤ i → i < W.n → gn out i = true → False := fun i i0 i1 hi => by have := gn_t.1 hi; have := h i i0 i1; omega
 exact ⟨fun i i0 i1 hi => (hg i i0 i1 hi).elim, fun i j i0 i1 hi => (hg i i0 i1 hi).elim, fun i i0 i1 hi => (hg i i0 i1 hi).elim, fun i i0 i1 hi => (hg i i0 i1 hi).elim, fun i i0 i1 hi => (hg i i0 i1 hi).elim, fun i k i0 i1 hi => (hg i i0 i1 hi).elim⟩
theorem CoreSt.ring {W : Wish} (hW : W.Ok) {out out2 : Int → Int} (h : CoreSt W out) {p : Int → Int} {x : Int} {J : Nat} (hR : W.Ring (gn out) J (fun j => itr p x j.toNat)) (hJ : itr p x J = x)
  (h1 : ∀ j : Nat, j < J → out2 (itr p x j) = itr p x (j + 1)) (h2 : ∀ i : Int, (∀ j : Nat, j < J → itr p x j ≠ i) → out2 i = out i) : CoreSt W out2 := by
 obtain ⟨o, t, c, hT, ho⟩ := h.ts
 have hpos := hR.pos
 have hnx : ∀ j : Nat, j < J → itr p x (j + 1) = itr p x (Wish.nxt J j).toNat := fun j hj => by
  unfold Wish.nxt
  split
  ·rw [show j + 1 = J by omega, hJ]; rfl
  ·rw [show ((j : Int) + 1).toNat = j + 1 by omega]
 have hin : ∀ j : Nat, j < J → (0 ≤ itr p x j ∧ itr p x j < W.n) ∧ gn out (itr p x j) = false := fun j hj => by
  have := hR.rng j (by omega) (by omega)
  exact this
 have hg : ∀ y : Int, 0 ≤ y → y < W.n → (gn out2 y = true ↔ gn out y = true ∨ ∃ j : Int, 0 ≤ j ∧ j < J ∧ itr p x j.toNat = y) := fun y y0 y1 => by
  by_cases c : ∃ j : Nat, j < J ∧ itr p x j = y
  ·obtain ⟨j, hj, e⟩ := c
   have h3 := h1 j hj
   rw [e, hnx j hj] at h3
   have h4 := (hin (Wish.nxt J j).toNat (by have := Wish.nxt_rng (m := J) (j := j) (by omega) (by omega); omega)).1.1
   exact ⟨fun _ => .inr ⟨j, by omega, by omega, e⟩, fun _ => gn_t.2 (by omega)⟩
  ·have h3 := h2 y fun j hj e => c ⟨j, hj, e⟩
   rw [gn_t, gn_t, h3]
   exact ⟨.inl, fun h => h.elim id fun ⟨j, j0, j1, e⟩ => absurd ⟨j.toNat, by omega, e⟩ c⟩
 have hT2 := hT.ring hW (gone' := gn out2) hR hg
 have hval : ∀ i : Int, 0 ≤ i → i < W.n → 0 ≤ out2 i → out2 i = Wish.oR (gn out) o J (fun j => itr p x j.toNat) i := fun i i0 i1 hi => by
  by_cases c : ∃ j : Nat, j < J ∧ itr p x j = i
  ·obtain ⟨j, hj, e⟩ := c
   have h3 := Wish.oR_at (o := o) hR (j := j) (by omega) (by omega)
   have h5 := h1 j hj
   rw [e] at h5
   have h6 : itr p x ((j : Int)).toNat = i := e
   simp only [h6] at h3
   rw [h3, h5, hnx j hj]
  ·have h3 := h2 i fun j hj e => c ⟨j, hj, e⟩
   rw [h3] at hi ⊢
   rw [ho i i0 i1 hi]
   unfold Wish.oR
   rw [if_pos (gn_t.2 hi)]
 refine ⟨fun i i0 i1 => ?_, _, _, _, hT2, hval⟩
 by_cases c : ∃ j : Nat, j < J ∧ itr p x j = i
 ·obtain ⟨j, hj, e⟩ := c
  have h5 := h1 j hj
  rw [e, hnx j hj] at h5
  have h4 := (hin (Wish.nxt J j).toNat (by have := Wish.nxt_rng (m := J) (j := j) (by omega) (by omega); omega)).1
  omega
 ·rw [h2 i fun j hj e => c ⟨j, hj, e⟩]; exact h.rng i i0 i1
theorem CoreSt.cert {W : Wish} {out : Int → Int} (h : CoreSt W out) (hall : ∀ i : Int, 0 ≤ i → i < W.n → 0 ≤ out i) : ∃ o t, W.Cert o t ∧ ∀ i : Int, 0 ≤ i → i < W.n → out i = o i := by
 obtain ⟨o, t, c, hT, ho⟩ := h.ts
 exact ⟨o, t, hT.cert fun i i0 i1 => gn_t.2 (hall i i0 i1), fun i i0 i1 => ho i i0 i1 (hall i i0 i1)⟩
end Go.Proofs.Ytlldeifbfpmbaaa
