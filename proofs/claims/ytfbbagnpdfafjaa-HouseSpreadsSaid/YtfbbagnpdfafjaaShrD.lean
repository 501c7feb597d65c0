import Derived.Test.YtfbbagnpdfafjaaHcG
import Derived.Test.YtfbbagnpdfafjaaHaU
set_option maxRecDepth 100000
namespace Go.Proofs.Ytfbbagnpdfafjaa
open Go.RowKit Go.Proofs
structure Pk (q re : Int → Int) (n k : Int) (out rest : Int → Int) : Prop where
 st : ∀ i : Int, 0 ≤ i → i < n → (rest i = re i ∧ out i = q i) ∨ (rest i = -1 ∧ out i = q i + 1)
 ord : ∀ i j : Int, 0 ≤ i → i < n → 0 ≤ j → j < n → rest i = -1 → rest j ≠ -1 → Bf re i j
 sum : sm out n = sm q n + k
theorem Pk.init {q re : Int → Int} {n : Int} (hre : ∀ i : Int, 0 ≤ i → i < n → 0 ≤ re i) : Pk q re n 0 q re :=
 ⟨fun i _ _ => .inl ⟨rfl, rfl⟩, fun i j i0 i1 _ _ h _ => by have := hre i i0 i1; omega, by omega⟩
def Gr (rest : Int → Int) (n b : Int) : Prop := (0 ≤ b ∧ b < n) ∧ ∀ j : Int, 0 ≤ j → j < n → rest j < rest b ∨ rest j = rest b ∧ b ≤ j
theorem Gr.init {rest : Int → Int} : Gr rest 1 0 := ⟨by omega, fun j j0 j1 => by rw [show j = 0 by omega]; omega⟩
theorem Gr.up {rest : Int → Int} {i b : Int} (h : Gr rest i b) (c : rest b < rest i) : Gr rest (i + 1) i :=
 ⟨by have := h.1; omega, fun j j0 j1 => by
  by_cases e : j = i
  ·rw [e]; omega
  ·have := h.2 j j0 (by omega); omega⟩
theorem Gr.same {rest : Int → Int} {i b : Int} (h : Gr rest i b) (c : ¬ rest b < rest i) : Gr rest (i + 1) b :=
 ⟨by have := h.1; omega, fun j j0 j1 => by
  by_cases e : j = i
  ·rw [e]; have := h.1; omega
  ·exact h.2 j j0 (by omega)⟩
theorem Pk.free {q re out rest : Int → Int} {n k : Int} (h : Pk q re n k out rest) (hre : ∀ i : Int, 0 ≤ i → i < n → 0 ≤ re i) (n0 : 0 ≤ n) (hk : k < n) : ∃ j : Int, (0 ≤ j ∧ j < n) ∧ rest j ≠ -1 := by
 refine Classical.byContradiction fun hx => ?_
 have hall : ∀ i : Int, 0 ≤ i → i < n → rest i = -1 := fun i i0 i1 => Classical.byContradiction fun e => hx ⟨i, ⟨i0, i1⟩, e⟩
 have e : sm out n = sm (fun i => q i + 1) n := sm_congr fun i i0 i1 => by
  rcases h.st i i0 i1 with c | c
  ·have h1 := hall i i0 i1
   have h2 := hre i i0 i1
   omega
  ·exact c.2
 rw [sm_add, sm_const 1 n0, h.sum] at e
 omega
theorem Pk.step {q re out rest : Int → Int} {n k b : Int} (h : Pk q re n k out rest) (hre : ∀ i : Int, 0 ≤ i → i < n → 0 ≤ re i) (n0 : 0 ≤ n) (hk : k < n) (hb : Gr rest n b) : Pk q re n (k + 1) (upd out b (out b + 1)) (upd rest b (-1)) ∧ rest b ≠ -1 := by
 obtain ⟨j0, hj, hj1⟩ := h.free hre n0 hk
 have hnb : rest b ≠ -1 := fun e => by
  rcases h.st j0 hj.1 hj.2 with c | c
  ·have h1 := hb.2 j0 hj.1 hj.2
   have h2 := hre j0 hj.1 hj.2
   omega
  ·exact hj1 c.1
 have hbst : rest b = re b ∧ out b = q b := by
  rcases h.st b hb.1.1 hb.1.2 with c | c
  ·exact c
  ·exact absurd c.1 hnb
 refine ⟨⟨fun i i0 i1 => ?_, fun i j i0 i1 j0 j1 hi hj => ?_, ?_⟩, hnb⟩
 ·by_cases e : i = b
  ·rw [e, upd_same, upd_same, hbst.2]
   exact .inr ⟨rfl, rfl⟩
  ·rw [upd_ne _ _ e, upd_ne _ _ e]
   exact h.st i i0 i1
 ·have hjb : j ≠ b := fun e => by rw [e, upd_same] at hj; exact hj rfl
  rw [upd_ne _ _ hjb] at hj
  have hjs : rest j = re j := by
   rcases h.st j j0 j1 with c | c
   ·exact c.1
   ·exact absurd c.1 hj
  by_cases e : i = b
  ·rw [e]
   have h1 := hb.2 j j0 j1
   unfold Bf
   omega
  ·rw [upd_ne _ _ e] at hi
   exact h.ord i j i0 i1 j0 j1 hi hj
 ·rw [sm_upd _ _ _ hb.1.1 hb.1.2, h.sum]
  omega
theorem Pk.shr {total : Int} {n : Nat} {W out rest : Int → Int} {left : Int} (hS : sm W n ≠ 0) (hl : left = total - sm (fun i => total * W i / sm W n) n) (hre : ∀ i : Int, 0 ≤ i → i < n → 0 ≤ total * W i % sm W n) (h : Pk (fun i => total * W i / sm W n) (fun i => total * W i % sm W n) n left out rest) : Shr total n W out := by
 refine ⟨by rw [if_neg hS, h.sum, hl]; omega, fun i i0 i1 => ?_, fun i j i0 i1 j0 j1 ei ej => ?_⟩
 ·rcases h.st i i0 i1 with c | c
  ·exact .inl c.2
  ·exact .inr c.2
 ·have hi : rest i = -1 := by
   rcases h.st i i0 i1 with c | c
   ·have := c.2; omega
   ·exact c.1
  have hj : rest j ≠ -1 := by
   rcases h.st j j0 j1 with c | c
   ·have := hre j j0 j1
    have := c.1
    omega
   ·have := c.2; omega
  exact h.ord i j i0 i1 j0 j1 hi hj
end Go.Proofs.Ytfbbagnpdfafjaa
