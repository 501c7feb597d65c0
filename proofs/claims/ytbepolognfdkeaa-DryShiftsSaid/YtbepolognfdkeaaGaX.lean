import Derived.Test.YtbepolognfdkeaaGcF
import Derived.Test.YtbepolognfdkeaaBits0
import Derived.Test.YtbepolognfdkeaaGaV
import Derived.Test.YtbepolognfdkeaaGaN
set_option maxRecDepth 100000
namespace Go.Proofs.Ytbepolognfdkeaa
open Go.RowKit Go.Proofs Go.MapKept
theorem Lds.own_short (l : Lds) (most : Nat) : (l.own most true).Short := fun _ _ _ => rfl
end Go.Proofs.Ytbepolognfdkeaa
set_option maxRecDepth 100000
namespace Go.Proofs.Ytbepolognfdkeaa
open Go.RowKit Go.Proofs Go.MapKept
theorem rise_len {n m : Nat} {X Y : Int → Int} (hX : Rise n X) (hY : Rise m Y) (h : ∀ i : Int, (∃ j : Int, (0 ≤ j ∧ j < n) ∧ X j = i) → ∃ j : Int, (0 ≤ j ∧ j < m) ∧ Y j = i) : n ≤ m := by
 have hex : ∀ j : Int, ∃ a : Int, 0 ≤ j → j < n → (0 ≤ a ∧ a < m) ∧ Y a = X j := fun j => by
  by_cases c : 0 ≤ j ∧ j < n
  ·obtain ⟨a, ha, e⟩ := h (X j) ⟨j, c, rfl⟩
   exact ⟨a, fun _ _ => ⟨ha, e⟩⟩
  ·exact ⟨0, fun a b => absurd ⟨a, b⟩ c⟩
 refine pigeonG (e := fun j => Classical.choose (hex j)) (fun j j0 j1 => (Classical.choose_spec (hex j) j0 j1).1) (fun a b a0 a1 b0 b1 e => ?_)
 have h1 := (Classical.choose_spec (hex a) a0 a1).2
 have h2 := (Classical.choose_spec (hex b) b0 b1).2
 have e' : Classical.choose (hex a) = Classical.choose (hex b) := e
 rw [e'] at h1
 have h3 : X a = X b := h1.symm.trans h2
 rcases Int.lt_trichotomy a b with d | d | d
 ·have := hX.inc a b a0 d b1; omega
 ·exact d
 ·have := hX.inc b a b0 d a1; omega
theorem rise_uniq {n m : Nat} {X Y : Int → Int} (hX : Rise n X) (hY : Rise m Y) (h : ∀ i : Int, (∃ j : Int, (0 ≤ j ∧ j < n) ∧ X j = i) ↔ ∃ j : Int, (0 ≤ j ∧ j < m) ∧ Y j = i) : n = m ∧ ∀ j : Int, 0 ≤ j → j < n → X j = Y j := by
 have hnm : n = m := Nat.le_antisymm (rise_len hX hY fun i => (h i).1) (rise_len hY hX fun i => (h i).2)
 subst hnm
 refine ⟨rfl, ?_⟩
 have key : ∀ q : Nat, ∀ j : Int, 0 ≤ j → j < q → j < n → X j = Y j := by
  intro q
  induction q with
  | zero => intro j j0 j1 _; omega
  | succ q ih =>
   intro j j0 j1 j2
   by_cases c : j < q
   ·exact ih j j0 c j2
   ·have hjq : j = q := by omega
    obtain ⟨a, ha, ea⟩ := (h (X j)).1 ⟨j, ⟨j0, j2⟩, rfl⟩
    obtain ⟨b, hb, eb⟩ := (h (Y j)).2 ⟨j, ⟨j0, j2⟩, rfl⟩
    have h1 : j ≤ a := Classical.byContradiction fun hn => by
     have e := ih a ha.1 (by omega) ha.2
     have := hX.inc a j ha.1 (by omega) j2
     omega
    have h2 : j ≤ b := Classical.byContradiction fun hn => by
     have e := ih b hb.1 (by omega) hb.2
     have := hY.inc b j hb.1 (by omega) j2
     omega
    have h3 : Y j ≤ Y a := by
     by_cases e : j = a
     ·rw [e]; exact Int.le_refl _
     ·have := hY.inc j a j0 (by omega) ha.2; omega
    have h4 : X j ≤ X b := by
     by_cases e : j = b
     ·rw [e]; exact Int.le_refl _
     ·have := hX.inc j b j0 (by omega) hb.2; omega
    omega
 exact fun j j0 j1 => key n j j0 j1 j1
theorem Lds.best_ok {l : Lds} {k : Int} (hk : l.chkK k = 0) (hs : l.Short) : l.bestE k = 0 := by unfold Lds.bestE; rw [if_pos hk, if_pos hs]
end Go.Proofs.Ytbepolognfdkeaa
set_option maxRecDepth 100000
namespace Go.Proofs.Ytbepolognfdkeaa
def Lds.shift (l : Lds) (D : Int) : Lds := ⟨l.n, fun i => l.r i + D, fun i => l.d i + D, l.len, l.wo⟩
theorem cntE_shift (l : Lds) (D : Int) (S : Int → Prop) (h : Int → Int) (s : Int) : cntE (l.shift D) S h s = cntE l S (fun i => h i - D) (s - D) :=
 sm_congr fun i _ _ => ind_congr ⟨fun ⟨a, b⟩ => ⟨a, show h i - D = s - D by omega⟩, fun ⟨a, b⟩ => ⟨a, by have : h i - D = s - D := b; omega⟩⟩
theorem canM_shift {l : Lds} {k D : Int} {S : Int → Prop} : CanM (l.shift D) k S ↔ CanM l k S := by
 constructor
 ·rintro ⟨h, h1, h2⟩
  refine ⟨fun i => h i - D, fun i i0 i1 hS => ?_, fun t => ?_⟩
  ·have a : l.r i + D ≤ h i ∧ h i < l.d i + D := h1 i i0 i1 hS
   show l.r i ≤ h i - D ∧ h i - D < l.d i
   omega
  ·have a := h2 (t + D)
   rw [cntE_shift, show t + D - D = t by omega] at a
   exact a
 ·rintro ⟨h, h1, h2⟩
  refine ⟨fun i => h i + D, fun i i0 i1 hS => ?_, fun t => ?_⟩
  ·have a := h1 i i0 i1 hS
   show l.r i + D ≤ h i + D ∧ h i + D < l.d i + D
   omega
  ·rw [cntE_shift]
   have e : (fun i => h i + D - D) = h := funext fun i => by omega
   rw [e]; exact h2 _
theorem grd_shift (l : Lds) (k D : Int) (Z : Int → Int) : ∀ p : Nat, grd (l.shift D) k Z p = grd l k Z p
 | 0 => rfl
 | p + 1 => by
  funext i
  show (grd (l.shift D) k Z p i ∨ (i = Z p ∧ CanM (l.shift D) k fun j => grd (l.shift D) k Z p j ∨ j = Z p)) = (grd l k Z p i ∨ (i = Z p ∧ CanM l k fun j => grd l k Z p j ∨ j = Z p))
  rw [grd_shift l k D Z p, propext canM_shift]
theorem sm_move {f : Int → Int} {T a b D : Int} (hf : ∀ h : Int, f h ≠ 0 → a ≤ h ∧ h < b) (a0 : 0 ≤ a) (bT : b ≤ T) (D0 : 0 ≤ D) (bD : b + D ≤ T) : sm (fun h => f (h - D)) T = sm f T := by
 by_cases hT : D ≤ T
 ·rw [sm_shift (fun h => f (h - D)) D0 hT, sm_zeroG fun h h0 h1 => Classical.byContradiction fun c => by have := hf (h - D) c; omega]
  rw [sm_shift f (a := T - D) (b := T) (by omega) (by omega), sm_zeroG (f := fun i => f (T - D + i)) fun h h0 h1 => Classical.byContradiction fun c => by have := hf (T - D + h) c; omega]
  rw [sm_congr (f := fun i => f (D + i - D)) (g := f) fun i _ _ => by rw [show D + i - D = i by omega]]
  omega
 ·rw [sm_zeroG fun h h0 h1 => Classical.byContradiction fun c => by have := hf (h - D) c; omega, sm_zeroG fun h h0 h1 => Classical.byContradiction fun c => by have := hf h c; omega]
theorem can_shift {l : Lds} {k D : Int} (hV : l.Valid) (hk : 0 ≤ k) (D0 : 0 ≤ D) (D1 : D ≤ 1000000) : (l.shift D).Can k ↔ l.Can k := by
 constructor
 ·rintro ⟨x, h1, h2, h3, h4⟩
  have hw : ∀ i h : Int, 0 ≤ i → i < l.n → x i h ≠ 0 → l.r i + D ≤ h ∧ h < l.d i + D := h2
  refine ⟨fun i h => x i (h + D), fun i h i0 i1 => h1 i _ i0 i1, fun i h i0 i1 hne => ?_, fun i i0 i1 => ?_, fun h h0 hT => ?_⟩
  ·have := hw i (h + D) i0 i1 hne; omega
  ·have hv := hV i i0 i1
   unfold Lds.Val at hv
   have e := sm_move (f := fun h => x i (h + D)) (T := 1000000000) (a := l.r i) (b := l.d i) (D := D) (fun h hne => by have := hw i (h + D) i0 i1 hne; omega) (by omega) (by omega) D0 (by omega)
   rw [← e, sm_congr (g := x i) fun h _ _ => by show x i (h - D + D) = x i h; rw [show h - D + D = h by omega]]
   exact h3 i i0 i1
  ·by_cases c : h + D < 1000000000
   ·exact h4 (h + D) (by omega) c
   ·rw [sm_zeroG fun i i0 i1 => Classical.byContradiction fun ne => by have := hw i (h + D) i0 i1 ne; have hv := hV i i0 i1; unfold Lds.Val at hv; omega]
    exact hk
 ·rintro ⟨x, h1, h2, h3, h4⟩
  refine ⟨fun i h => x i (h - D), fun i h i0 i1 => h1 i _ i0 i1, fun i h i0 i1 hne => ?_, fun i i0 i1 => ?_, fun h h0 hT => ?_⟩
  ·have := h2 i (h - D) i0 i1 hne
   show l.r i + D ≤ h ∧ h < l.d i + D
   omega
  ·have hv := hV i i0 i1
   unfold Lds.Val at hv
   rw [sm_move (f := x i) (T := 1000000000) (a := l.r i) (b := l.d i) (D := D) (fun h hne => h2 i h i0 i1 hne) (by omega) (by omega) D0 (by omega)]
   exact h3 i i0 i1
  ·show sm (fun i => x i (h - D)) l.n ≤ k
   by_cases c : D ≤ h
   ·exact h4 (h - D) (by omega) (by omega)
   ·rw [sm_zeroG fun i i0 i1 => Classical.byContradiction fun ne => by have := h2 i (h - D) i0 i1 ne; have hv := hV i i0 i1; unfold Lds.Val at hv; omega]
    exact hk
theorem EdF.shift {l : Lds} {k D : Int} {out : Int → Int} (hV : l.Valid) (D0 : 0 ≤ D) (h : EdF (l.shift D) k (fun _ => True) out) : EdF l k (fun _ => True) (fun i => out i - D) := by
 refine ⟨fun i i0 i1 hS => ?_, fun i _ _ c => absurd trivial c, fun s s0 => ?_, fun i s i0 i1 hS s0 hr hs => ?_⟩
 ·have a : l.r i + D ≤ out i ∧ out i < l.d i + D := h.rng i i0 i1 hS
  show l.r i ≤ out i - D ∧ out i - D < l.d i
  omega
 ·have a := h.cap (s + D) (by omega)
  rw [cntE_shift, show s + D - D = s by omega] at a
  exact a
 ·have hs : s < out i - D := hs
  have a := h.full i (s + D) i0 i1 hS (by omega) (show l.r i + D ≤ s + D by omega) (by omega)
  rw [cntE_shift, show s + D - D = s by omega] at a
  refine ⟨a.1, fun j j0 j1 hSj e => ?_⟩
  have e : out j - D = s := e
  have b := a.2 j j0 j1 hSj (by omega)
  unfold lex at b ⊢
  have b : l.d j + D < l.d i + D ∨ (l.d j + D = l.d i + D ∧ j < i) := b
  omega
end Go.Proofs.Ytbepolognfdkeaa
set_option maxRecDepth 100000
namespace Go.Proofs.Ytbepolognfdkeaa
theorem SrtW.uniq {l : Lds} {Z Y : Int → Int} (h : SrtW l Z) (h' : SrtW l Y) : ∀ p : Nat, p < l.n → Z p = Y p := by
 intro p
 induction p using Nat.strongRecOn with
 | _ p ih =>
  intro hp
  obtain ⟨a, ha, ea⟩ := h'.ex (h.rng (p := p) (by omega) (by omega)).1 (h.rng (p := p) (by omega) (by omega)).2
  obtain ⟨b, hb, eb⟩ := h.ex (h'.rng (p := p) (by omega) (by omega)).1 (h'.rng (p := p) (by omega) (by omega)).2
  have hap : ¬ a < p := fun c => by
   have := ih a.toNat (by omega) (by omega)
   rw [Int.toNat_of_nonneg ha.1] at this
   exact h.ne a p ha.1 c (by omega) (this.trans ea)
  have hbp : ¬ b < p := fun c => by
   have := ih b.toNat (by omega) (by omega)
   rw [Int.toNat_of_nonneg hb.1] at this
   exact h'.ne b p hb.1 c (by omega) (this.symm.trans eb)
  by_cases c : a = p
  ·rw [← ea, c]
  ·by_cases d : b = p
   ·rw [← eb, d]
   ·have h1 := h'.srt p a (by omega) (by omega) ha.2
    have h2 := h.srt p b (by omega) (by omega) hb.2
    rw [ea] at h1
    rw [eb] at h2
    exact (lex_asymm h1 h2).elim
theorem grd_uniq {l : Lds} {k : Int} {Z Y : Int → Int} (h : SrtW l Z) (h' : SrtW l Y) : ∀ p : Nat, p ≤ l.n → grd l k Z p = grd l k Y p
 | 0, _ => rfl
 | p + 1, hp => by
  funext i
  show (grd l k Z p i ∨ (i = Z p ∧ CanM l k fun j => grd l k Z p j ∨ j = Z p)) = (grd l k Y p i ∨ (i = Y p ∧ CanM l k fun j => grd l k Y p j ∨ j = Y p))
  rw [grd_uniq h h' p (by omega), h.uniq h' p (by omega)]
end Go.Proofs.Ytbepolognfdkeaa
