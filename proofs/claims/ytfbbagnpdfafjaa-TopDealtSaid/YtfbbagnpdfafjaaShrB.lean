import Derived.Test.YtfbbagnpdfafjaaShrA
set_option maxRecDepth 100000
namespace Go.Proofs.Ytfbbagnpdfafjaa
open Go.RowKit Go.Proofs
theorem Shr.pos {total : Int} {n : Nat} {W out : Int → Int} (h : Shr total n W out) (hW : ∀ i : Int, 0 ≤ i → i < n → 0 ≤ W i) (hS : 0 < sm W n) {i : Int} (i0 : 0 ≤ i) (i1 : i < n) (hi : out i = total * W i / sm W n + 1) : 0 < total * W i % sm W n := by
 refine Classical.byContradiction fun hx => ?_
 have hr : ∀ j : Int, 0 ≤ total * W j % sm W n ∧ total * W j % sm W n < sm W n := fun j => ⟨Int.emod_nonneg _ (by omega), Int.emod_lt_of_pos _ hS⟩
 have hri : total * W i % sm W n = 0 := by have := (hr i).1; omega
 have e : total * sm W n = sm W n * sm (fun i => total * W i / sm W n) n + sm (fun i => total * W i % sm W n) n := by
  rw [← sm_mul, ← sm_mul, ← sm_add]
  exact sm_congr fun i i0 i1 => (Int.mul_ediv_add_emod _ _).symm
 have hle : ∀ j : Int, 0 ≤ j → j < n → total * W j % sm W n ≤ (sm W n - 1) * (out j - total * W j / sm W n) := fun j j0 j1 => by
  rcases h.one j j0 j1 with c | c
  ·have := h.top i j i0 i1 j0 j1 hi c
   unfold Bf at this
   dsimp only at this
   have := (hr j).1
   rw [c, Int.sub_self, Int.mul_zero]
   omega
  ·have := (hr j).2
   rw [c, show total * W j / sm W n + 1 - total * W j / sm W n = 1 by omega, Int.mul_one]
   omega
 have h1 := sm_le hle
 rw [sm_mul, sm_sub, h.sum, if_neg (by omega)] at h1
 have h2 : 0 < total - sm (fun i => total * W i / sm W n) n := by
  have h3 := sm_pos (f := fun j => out j - total * W j / sm W n) (k := (n : Int)) (fun j j0 j1 => by have := h.one j j0 j1; omega) i i0 i1
  rw [sm_sub, h.sum, if_neg (by omega)] at h3
  omega
 generalize sm (fun i => total * W i / sm W n) n = Q at *
 generalize sm (fun i => total * W i % sm W n) n = R at *
 generalize sm W n = S at *
 have e2 : (total - Q) * S = R := by rw [Int.sub_mul, Int.mul_comm Q S]; omega
 rw [Int.sub_mul, Int.one_mul, Int.mul_comm S] at h1
 omega
def filL (P : Int → Bool) : Nat → List Int
 | 0 => []
 | k + 1 => if P k then filL P k ++ [(k : Int)] else filL P k
theorem filL_succ (P : Int → Bool) (k : Nat) : filL P (k + 1) = if P k then filL P k ++ [(k : Int)] else filL P k := rfl
def glF (l : List Int) (i : Int) : Int := l.getD i.toNat 0
theorem glF_low {l : List Int} {x : Int} {t : Int} (h0 : 0 ≤ t) (h1 : t < l.length) : glF (l ++ [x]) t = glF l t := by
 unfold glF
 rw [List.getD_eq_getElem?_getD, List.getElem?_append_left (by omega), List.getD_eq_getElem?_getD]
theorem glF_top {l : List Int} {x : Int} : glF (l ++ [x]) l.length = x := by
 unfold glF
 rw [List.getD_eq_getElem?_getD, Int.toNat_natCast, List.getElem?_append_right (Nat.le_refl _), Nat.sub_self]
 rfl
theorem filL_len (P : Int → Bool) : ∀ k, (filL P k).length ≤ k
 | 0 => Nat.le_refl _
 | k + 1 => by
  have := filL_len P k
  rw [filL_succ]
  split
  ·rw [List.length_append]; exact Nat.succ_le_succ this
  ·omega
theorem filL_in (P : Int → Bool) : ∀ k : Nat, ∀ t : Int, 0 ≤ t → t < (filL P k).length → (0 ≤ glF (filL P k) t ∧ glF (filL P k) t < k) ∧ P (glF (filL P k) t) = true
 | 0, t, t0, t1 => by have : (t : Int) < 0 := t1; omega
 | k + 1, t, t0, t1 => by
  rw [filL_succ] at t1 ⊢
  by_cases c : P k = true
  ·rw [if_pos c] at t1 ⊢
   rw [List.length_append] at t1
   have t1' : t < (filL P k).length + 1 := by simpa using t1
   by_cases e : t = (filL P k).length
   ·rw [e, glF_top]; exact ⟨by omega, c⟩
   ·rw [glF_low t0 (by omega)]
    have := filL_in P k t t0 (by omega)
    exact ⟨by omega, this.2⟩
  ·rw [if_neg c] at t1 ⊢
   have := filL_in P k t t0 t1
   exact ⟨by omega, this.2⟩
theorem filL_mono (P : Int → Bool) : ∀ k : Nat, ∀ s t : Int, 0 ≤ s → s < t → t < (filL P k).length → glF (filL P k) s < glF (filL P k) t
 | 0, s, t, s0, st, t1 => by have : (t : Int) < 0 := t1; omega
 | k + 1, s, t, s0, st, t1 => by
  rw [filL_succ] at t1 ⊢
  by_cases c : P k = true
  ·rw [if_pos c] at t1 ⊢
   rw [List.length_append] at t1
   have t1' : t < (filL P k).length + 1 := by simpa using t1
   rw [glF_low s0 (by omega)]
   by_cases e : t = (filL P k).length
   ·rw [e, glF_top]; exact (filL_in P k s s0 (by omega)).1.2
   ·rw [glF_low (by omega) (by omega)]
    exact filL_mono P k s t s0 st (by omega)
  ·rw [if_neg c] at t1 ⊢
   exact filL_mono P k s t s0 st t1
theorem filL_onto (P : Int → Bool) : ∀ k : Nat, ∀ j : Int, 0 ≤ j → j < k → P j = true → ∃ t : Int, 0 ≤ t ∧ t < (filL P k).length ∧ glF (filL P k) t = j
 | 0, j, j0, j1, _ => by omega
 | k + 1, j, j0, j1, hj => by
  rw [filL_succ]
  by_cases e : j = k
  ·have c : P k = true := by rw [← e]; exact hj
   rw [if_pos c]
   exact ⟨(filL P k).length, by omega, by rw [List.length_append]; show _ < (((filL P k).length + 1 : Nat) : Int); omega, by rw [glF_top, e]⟩
  ·obtain ⟨t, t0, t1, et⟩ := filL_onto P k j j0 (by omega) hj
   by_cases c : P k = true
   ·rw [if_pos c]
    exact ⟨t, t0, by rw [List.length_append]; show _ < (((filL P k).length + 1 : Nat) : Int); omega, by rw [glF_low t0 t1, et]⟩
   ·rw [if_neg c]
    exact ⟨t, t0, t1, et⟩
theorem filL_sum (P : Int → Bool) (f : Int → Int) : ∀ k : Nat, (∀ j : Int, 0 ≤ j → j < k → P j = false → f j = 0) → sm f k = sm (fun t => f (glF (filL P k) t)) (filL P k).length
 | 0, _ => rfl
 | k + 1, h => by
  have ih := filL_sum P f k fun j j0 j1 => h j j0 (by omega)
  rw [show ((k + 1 : Nat) : Int) = (k : Int) + 1 by omega, sm_succ f (by omega), ih]
  rw [filL_succ]
  by_cases c : P k = true
  ·rw [if_pos c, List.length_append]
   show _ = sm _ (((filL P k).length + 1 : Nat) : Int)
   rw [show (((filL P k).length + 1 : Nat) : Int) = ((filL P k).length : Int) + 1 by omega, sm_succ _ (by omega), glF_top]
   rw [sm_congr (f := fun t => f (glF (filL P k ++ [(k : Int)]) t)) (g := fun t => f (glF (filL P k) t)) fun t t0 t1 => by rw [glF_low t0 t1]]
  ·rw [if_neg c, h k (by omega) (by omega) (by simpa using c)]
   omega
theorem Shr.embed {total : Int} {n : Nat} {W : Int → Int} {P : Int → Bool} {o o' : Int → Int} (ht : 0 ≤ total) (hW : ∀ i : Int, 0 ≤ i → i < n → 0 ≤ W i) (h0 : ∀ j : Int, 0 ≤ j → j < n → P j = false → W j = 0)
  (h : Shr total (filL P n).length (fun t => W (glF (filL P n) t)) o) (he : ∀ t : Int, 0 ≤ t → t < (filL P n).length → o' (glF (filL P n) t) = o t) (hz : ∀ j : Int, 0 ≤ j → j < n → P j = false → o' j = 0) : Shr total n W o' := by
 have eS := filL_sum P W n h0
 have eo := filL_sum P o' n hz
 rw [sm_congr (f := fun t => o' (glF (filL P n) t)) he] at eo
 have hV : ∀ t : Int, 0 ≤ t → t < (filL P n).length → 0 ≤ W (glF (filL P n) t) := fun t t0 t1 => by
  have := (filL_in P n t t0 t1).1
  exact hW _ this.1 this.2
 refine ⟨by rw [eo, h.sum, eS], fun i i0 i1 => ?_, fun i j i0 i1 j0 j1 ei ej => ?_⟩
 ·cases c : P i
  ·rw [hz i i0 i1 c, h0 i i0 i1 c, Int.mul_zero, Int.zero_ediv]
   exact .inl rfl
  ·obtain ⟨t, t0, t1, rfl⟩ := filL_onto P n i i0 i1 c
   rw [he t t0 t1, eS]
   exact h.one t t0 t1
 ·cases c : P i
  ·rw [hz i i0 i1 c, h0 i i0 i1 c, Int.mul_zero, Int.zero_ediv] at ei
   omega
  ·obtain ⟨t, t0, t1, rfl⟩ := filL_onto P n i i0 i1 c
   rw [he t t0 t1, eS] at ei
   cases c2 : P j
   ·have hS : 0 < sm (fun t => W (glF (filL P n) t)) (filL P n).length := by
     have hnn := sm_nonneg hV
     refine Classical.byContradiction fun hx => ?_
     have e0 : sm (fun t => W (glF (filL P n) t)) (filL P n).length = 0 := by omega
     have hs := h.sum
     rw [if_pos e0] at hs
     have hge : ∀ t : Int, 0 ≤ t → t < (filL P n).length → 0 ≤ o t := fun t t0 t1 => by
      have := h.one t t0 t1
      rw [e0, Int.ediv_zero] at this
      omega
     have := sm_pos hge t t0 t1
     rw [e0, Int.ediv_zero] at ei
     omega
    have hp := h.pos hV hS t0 t1 ei
    unfold Bf
    dsimp only
    rw [h0 j j0 j1 c2, Int.mul_zero, Int.zero_emod, eS]
    exact .inl hp
   ·obtain ⟨t', t0', t1', rfl⟩ := filL_onto P n j j0 j1 c2
    rw [he t' t0' t1', eS] at ej
    have := h.top t t' t0 t1 t0' t1' ei ej
    unfold Bf at this ⊢
    dsimp only at this ⊢
    rw [eS]
    rcases this with a | ⟨a, b⟩
    ·exact .inl a
    ·exact .inr ⟨a, filL_mono P n t t' t0 b t1'⟩
noncomputable def shF (total : Int) (n : Nat) (W : Int → Int) : Int → Int := by
 classical
 exact if h : ∃ o, Shr total n W o then Classical.choose h else fun _ => 0
theorem shF_eq {total : Int} {n : Nat} {W o : Int → Int} (h : Shr total n W o) : ∀ i : Int, 0 ≤ i → i < n → shF total n W i = o i := by
 have hx : ∃ o, Shr total n W o := ⟨o, h⟩
 unfold shF
 rw [dif_pos hx]
 exact (Classical.choose_spec hx).uniq h
theorem shF_ok {total : Int} {n : Nat} {W o : Int → Int} (h : Shr total n W o) : Shr total n W (shF total n W) := h.congr (fun _ _ _ => rfl) fun i i0 i1 => (shF_eq h i i0 i1).symm
end Go.Proofs.Ytfbbagnpdfafjaa
