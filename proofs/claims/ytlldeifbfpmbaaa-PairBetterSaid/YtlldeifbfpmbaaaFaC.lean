import Derived.Test.YtlldeifbfpmbaaaFaB
set_option maxRecDepth 100000
namespace Go.Proofs.Ytlldeifbfpmbaaa
open Go.RowKit Go.Proofs
theorem max_ex (p : Int → Prop) (F : Int → Int) : ∀ n : Nat, (∃ i : Int, (0 ≤ i ∧ i < n) ∧ p i) → ∃ i : Int, (0 ≤ i ∧ i < n) ∧ p i ∧ ∀ j : Int, 0 ≤ j → j < n → p j → F j ≤ F i
 | 0, ⟨i, ⟨h0, h1⟩, _⟩ => absurd h1 (by omega)
 | n + 1, ⟨i, ⟨h0, h1⟩, hp⟩ => by
  by_cases c : ∃ i : Int, (0 ≤ i ∧ i < n) ∧ p i
  ·obtain ⟨w, ⟨w0, w1⟩, wp, wm⟩ := max_ex p F n c
   by_cases d : p n ∧ F w < F n
   ·refine ⟨n, ⟨by omega, by omega⟩, d.1, fun j j0 j1 hj => ?_⟩
    by_cases e : j = n
    ·rw [e]; exact Int.le_refl _
    ·have := wm j j0 (by omega) hj
     omega
   ·refine ⟨w, ⟨w0, by omega⟩, wp, fun j j0 j1 hj => ?_⟩
    by_cases e : j = n
    ·rw [e] at hj ⊢
     exact Classical.byContradiction fun h => d ⟨hj, by omega⟩
    ·exact wm j j0 (by omega) hj
  ·have e : i = n := Classical.byContradiction fun e => c ⟨i, ⟨h0, by omega⟩, hp⟩
   rw [e] at hp
   refine ⟨n, ⟨by omega, by omega⟩, hp, fun j j0 j1 hj => ?_⟩
   have e : j = n := Classical.byContradiction fun e => c ⟨j, ⟨j0, by omega⟩, hj⟩
   rw [e]
   exact Int.le_refl _
namespace Fair
theorem DA.exists {f : Fair} (hf : f.Ok) : ∀ (t : Nat) {l nx : Int → Int}, f.DA l nx → sm (fun g => f.gl g - nx g) f.n = t → ∃ l' nx', f.DA l' nx' ∧ ∀ g : Int, 0 ≤ g → g < f.n → l' g = -1 → nx' g = f.gl g := by
 intro t
 induction t with
 | zero =>
  intro l nx h ht
  refine ⟨l, nx, h, fun g g0 g1 _ => ?_⟩
  have := sm_pos (f := fun g => (f.gl g : Int) - nx g) (k := f.n) (fun i i0 i1 => by have := h.nxr i i0 i1; omega) g g0 g1
  have := h.nxr g g0 g1
  omega
 | succ t ih =>
  intro l nx h ht
  by_cases c : ∃ g : Int, (0 ≤ g ∧ g < f.n) ∧ l g = -1 ∧ nx g < f.gl g
  ·obtain ⟨g, ⟨g0, g1⟩, hl, hn⟩ := c
   have hm : sm (fun i => f.gl i - upd nx g (nx g + 1) i) f.n = t := by
    have e : (fun i => (f.gl i : Int) - upd nx g (nx g + 1) i) = upd (fun i => f.gl i - nx i) g (f.gl g - nx g - 1) := by
     funext i
     unfold upd
     by_cases c : i = g
     ·rw [if_pos c, if_pos c, c]; omega
     ·rw [if_neg c, if_neg c]
    rw [e, sm_upd _ _ _ g0 g1]
    omega
   by_cases hk : f.know g (f.ge g (nx g))
   ·by_cases hq : f.q (f.ge g (nx g)) ≤ f.cnt l (f.ge g (nx g))
    ·obtain ⟨w, ⟨w0, w1⟩, hw, hmax⟩ := max_ex (fun i => upd l g (f.ge g (nx g)) i = f.ge g (nx g)) (f.rb (f.ge g (nx g))) f.n ⟨g, ⟨g0, g1⟩, upd_same _ _ _⟩
     exact ih (h.swap hf g0 g1 hl hn hk hq w0 w1 hw hmax) hm
    ·exact ih (h.take hf g0 g1 hl hn hk (by omega)) hm
   ·exact ih (h.skip hf g0 g1 hl hn (.inl hk)) hm
  ·refine ⟨l, nx, h, fun g g0 g1 hl => Classical.byContradiction fun hne => c ⟨g, ⟨g0, g1⟩, hl, ?_⟩⟩
   have := h.nxr g g0 g1
   omega
theorem Best.exists {f : Fair} (hf : f.Ok) : ∃ l, f.Best l := by
 have h := DA.init f hf.q0
 obtain ⟨l, nx, h1, h2⟩ := DA.exists hf (sm (fun g => f.gl g - 0) f.n).toNat h (by
  have : 0 ≤ sm (fun g => (f.gl g : Int) - 0) f.n := sm_nonneg fun i _ _ => by omega
  omega)
 exact ⟨l, h1.isBest hf h2⟩
def lik (f : Fair) (g a b : Int) : Prop := 0 ≤ a ∧ (b < 0 ∨ f.rg g a < f.rg g b)
instance (f : Fair) (g a b : Int) : Decidable (f.lik g a b) := by unfold lik; exact inferInstance
end Fair
end Go.Proofs.Ytlldeifbfpmbaaa
