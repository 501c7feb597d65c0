import Derived.Test.YtlldeifbfpmbaaaFaB
set_option maxRecDepth 100000
namespace Go.Proofs.Ytlldeifbfpmbaaa
open Go.RowKit Go.Proofs
theorem max_ex (p : Int → Prop) (F : Int → Int) : ∀ n : Nat, (∃ i : Int, (0 ≤ i ∧ i < n) ∧ p i) → ∃ i : Int, (0 ≤ i ∧ i < n) ∧ p i ∧ ∀ j : Int, 0 ≤ j → j < n → p j → F j ≤ F i
 | 0, ⟨i, ⟨h0, h1⟩, _⟩ => absurd h1 (by omega)
 | n + 1, ⟨i, ⟨h0, h1⟩, hp⟩ => by
  by_cases c : ∃ i : Int, (0 ≤ i ∧ i < n) ∧ p i
  ·obtain ⟨w, ⟨w0, w1⟩, wp, wm⟩ := max_ex p F n c
   by_cases d : p n ∧ F w < F n
   ·refine ⟨n, ⟨by omega, by omega⟩, d.1, fun j j0 j1 hj => ?_⟩
    by_cases e : j = n
    ·rw [e]; exact Int.le_refl _
    ·have := wm j j0 (by omega) hj
     omega
   ·refine ⟨w, ⟨w0, by omega⟩, wp, fun j j0 j1 hj => ?_⟩
    by_cases e : j = n
    ·rw [e] at hj ⊢
     exact Classical.byContradiction fun h => d ⟨hj, by omega⟩
    ·exact wm j j0 (by omega) hj
  ·have e : i = n := Classical.byContradiction fun e => c ⟨i, ⟨h0, by omega⟩, hp⟩
   rw [e] at hp
   refine ⟨n, ⟨by omega, by omega⟩, hp, fun j j0 j1 hj => ?_⟩
   have e : j = n := Classical.byContradiction fun e => c ⟨j, ⟨j0, by omega⟩, hj⟩
   rw [e]
   exact Int.le_refl _
theorem rk_cut {e : Int → Int} {x : Int} {k : Nat} : ∀ {n : Nat}, k ≤ n → rk e n x < k → rk e k x = rk e n x
 | n, hkn, h => by
  by_cases c : rk e k x < k
  ·by_cases d : rk e k x < rk e n x
   ·exact absurd (rk_at c) (rk_ne (n := n) (rk_rng e x k).1 d)
   ·by_cases d2 : rk e n x < rk e k x
    ·exact absurd (rk_at (by omega)) (rk_ne (n := k) (rk_rng e x n).1 d2)
    ·omega
  ·exact absurd (rk_at (by omega)) (rk_ne (n := k) (rk_rng e x n).1 (by omega))
theorem rk_cut' {e : Int → Int} {x : Int} {k n : Nat} (hkn : k ≤ n) (h : rk e k x < k) : rk e n x = rk e k x := by
 by_cases d : rk e k x < rk e n x
 ·exact absurd (rk_at h) (rk_ne (n := n) (rk_rng e x k).1 d)
 ·by_cases d2 : rk e n x < rk e k x
  ·exact absurd (rk_at (by omega)) (rk_ne (n := k) (rk_rng e x n).1 d2)
  ·omega
namespace Fair
theorem DA.exists {f : Fair} (hf : f.Ok) : ∀ (t : Nat) {l nx : Int → Int}, f.DA l nx → sm (fun g => f.gl g - nx g) f.n = t → ∃ l' nx', f.DA l' nx' ∧ ∀ g : Int, 0 ≤ g → g < f.n → l' g = -1 → nx' g = f.gl g := by
 intro t
 induction t with
 | zero =>
  intro l nx h ht
  refine ⟨l, nx, h, fun g g0 g1 _ => ?_⟩
  have := sm_pos (f := fun g => (f.gl g : Int) - nx g) (k := f.n) (fun i i0 i1 => by have := h.nxr i i0 i1; omega) g g0 g1
  have := h.nxr g g0 g1
  omega
 | succ t ih =>
  intro l nx h ht
  by_cases c : ∃ g : Int, (0 ≤ g ∧ g < f.n) ∧ l g = -1 ∧ nx g < f.gl g
  ·obtain ⟨g, ⟨g0, g1⟩, hl, hn⟩ := c
   have hm : sm (fun i => f.gl i - upd nx g (nx g + 1) i) f.n = t := by
    have e : (fun i => (f.gl i : Int) - upd nx g (nx g + 1) i) = upd (fun i => f.gl i - nx i) g (f.gl g - nx g - 1) := by
     funext i
     unfold upd
     by_cases c : i = g
     ·rw [if_pos c, if_pos c, c]; omega
     ·rw [if_neg c, if_neg c]
    rw [e, sm_upd _ _ _ g0 g1]
    omega
   by_cases hk : f.know g (f.ge g (nx g))
   ·by_cases hq : f.q (f.ge g (nx g)) ≤ f.cnt l (f.ge g (nx g))
    ·obtain ⟨w, ⟨w0, w1⟩, hw, hmax⟩ := max_ex (fun i => upd l g (f.ge g (nx g)) i = f.ge g (nx g)) (f.rb (f.ge g (nx g))) f.n ⟨g, ⟨g0, g1⟩, upd_same _ _ _⟩
     exact ih (h.swap hf g0 g1 hl hn hk hq w0 w1 hw hmax) hm
    ·exact ih (h.take hf g0 g1 hl hn hk (by omega)) hm
   ·exact ih (h.skip hf g0 g1 hl hn (.inl hk)) hm
  ·refine ⟨l, nx, h, fun g g0 g1 hl => Classical.byContradiction fun hne => c ⟨g, ⟨g0, g1⟩, hl, ?_⟩⟩
   have := h.nxr g g0 g1
   omega
theorem Best.exists {f : Fair} (hf : f.Ok) : ∃ l, f.Best l := by
 have h := DA.init f hf.q0
 obtain ⟨l, nx, h1, h2⟩ := DA.exists hf (sm (fun g => f.gl g - 0) f.n).toNat h (by
  have : 0 ≤ sm (fun g => (f.gl g : Int) - 0) f.n := sm_nonneg fun i _ _ => by omega
  omega)
 exact ⟨l, h1.isBest hf h2⟩
def lie (f : Fair) (g : Int) (L : Nat) (e : Int → Int) : Fair := { f with gl := fun h => if h = g then L else f.gl h, ge := fun h => if h = g then e else f.ge h }
theorem lie_self (f : Fair) (g : Int) : f.lie g (f.gl g) (f.ge g) = f := by
 unfold lie
 have e1 : (fun h => if h = g then f.gl g else f.gl h) = f.gl := by funext h; split; rename_i e; rw [e]; rfl
 have e2 : (fun h => if h = g then f.ge g else f.ge h) = f.ge := by funext h; split; rename_i e; rw [e]; rfl
 rw [e1, e2]
theorem lie_rg (f : Fair) (g : Int) (L : Nat) (e : Int → Int) (b : Int) : (f.lie g L e).rg g b = rk e L b := by
 unfold rg lie
 simp only [if_true]
theorem lie_gl (f : Fair) (g : Int) (L : Nat) (e : Int → Int) : (f.lie g L e).gl g = L := if_pos rfl
theorem lie_rg' {f : Fair} {g h : Int} {L : Nat} {e : Int → Int} (hne : h ≠ g) (b : Int) : (f.lie g L e).rg h b = f.rg h b := by
 unfold rg lie
 simp only [if_neg hne]
theorem lie_know {f : Fair} {g : Int} {L : Nat} {e : Int → Int} {b : Int} : (f.lie g L e).know g b ↔ rk e L b < L ∧ f.rb b g < f.bl b := by
 unfold know
 rw [lie_rg, lie_gl]
 exact Iff.rfl
theorem lie_know' {f : Fair} {g h : Int} {L : Nat} {e : Int → Int} (hne : h ≠ g) {b : Int} : (f.lie g L e).know h b ↔ f.know h b := by
 unfold know
 rw [lie_rg' hne, show (f.lie g L e).gl h = f.gl h from if_neg hne]
 exact Iff.rfl
theorem lie_ok {f : Fair} (hf : f.Ok) {g : Int} {L : Nat} {e : Int → Int} (hr : ∀ k : Int, 0 ≤ k → k < L → 0 ≤ e k ∧ e k < f.m) (hd : ∀ a b : Int, 0 ≤ a → a < L → 0 ≤ b → b < L → e a = e b → a = b) : (f.lie g L e).Ok := by
 refine ⟨fun h k h0 h1 k0 k1 => ?_, fun h h0 h1 a b a0 a1 b0 b1 => ?_, hf.br, hf.bd, hf.q0⟩
 ·unfold lie at k1 ⊢
  by_cases c : h = g
  ·simp only [if_pos c] at k1 ⊢; exact hr k k0 k1
  ·simp only [if_neg c] at k1 ⊢; exact hf.gr h k h0 h1 k0 k1
 ·unfold lie at a1 b1 ⊢
  by_cases c : h = g
  ·simp only [if_pos c] at a1 b1 ⊢; exact hd a b a0 a1 b0 b1
  ·simp only [if_neg c] at a1 b1 ⊢; exact hf.gd h h0 h1 a b a0 a1 b0 b1
theorem Stab.lie {f : Fair} {g : Int} {L L' : Nat} {e e' s : Int → Int} (h : (f.lie g L e).Stab s) (hp : s g = -1 ∨ rk e' L' (s g) < L')
  (hb : ∀ c : Int, 0 ≤ c → c < f.m → s g ≠ c → rk e' L' c < L' → ¬ (0 ≤ s g ∧ rk e' L' (s g) < rk e' L' c) → rk e L c < L ∧ ¬ (0 ≤ s g ∧ rk e L (s g) < rk e L c)) : (f.lie g L' e').Stab s := by
 refine ⟨⟨fun i i0 i1 => ?_, h.poss.cnt⟩, fun i c i0 i1 c0 c1 ⟨h1, h2, h3, h4⟩ => h.none i c i0 i1 c0 c1 ?_⟩
 ·by_cases e : i = g
  ·rcases h.poss.at_ i i0 i1 with h1 | ⟨h1, h2⟩
   ·exact .inl h1
   ·rw [e] at h1 h2 ⊢
    rcases hp with hp | hp
    ·exact .inl hp
    ·exact .inr ⟨h1, lie_know.2 ⟨hp, (lie_know.1 h2).2⟩⟩
  ·exact (h.poss.at_ i i0 i1).imp id fun ⟨h1, h2⟩ => ⟨h1, (lie_know' e).2 ((lie_know' e).1 h2)⟩
 ·by_cases e : i = g
  ·subst e
   rw [lie_rg, lie_rg] at h3
   obtain ⟨k1, k2⟩ := lie_know.1 h2
   obtain ⟨p1, p2⟩ := hb c c0 c1 h1 k1 h3
   exact ⟨h1, lie_know.2 ⟨p1, k2⟩, by rw [lie_rg, lie_rg]; exact p2, h4⟩
  ·rw [lie_rg' e, lie_rg' e] at h3
   exact ⟨h1, (lie_know' e).2 ((lie_know' e).1 h2), by rw [lie_rg' e, lie_rg' e]; exact h3, h4⟩
theorem truth {f : Fair} (hf : f.Ok) {g : Int} (g0 : 0 ≤ g) (g1 : g < f.n) {L : Nat} {e l l' : Int → Int} (hl : f.Best l) (hl' : (f.lie g L e).Best l') (hp : 0 ≤ l' g) (hlt : f.rg g (l' g) < f.gl g) : l g ≠ -1 ∧ f.rg g (l g) ≤ f.rg g (l' g) := by
 obtain ⟨b, hb⟩ : ∃ b, b = l' g := ⟨_, rfl⟩
 rw [← hb] at hp hlt ⊢
 have hbr := rg_nonneg f g b
 have hgb := ge_rg hlt
 have h0 := hl'.stab.poss.at_ g g0 g1
 rw [← hb] at h0
 obtain ⟨b1, hkL⟩ : b < f.m ∧ rk e L b < L ∧ f.rb b g < f.bl b := by
  rcases h0 with h0 | ⟨h0, h0'⟩
  ·omega
  ·exact ⟨h0.2, lie_know.1 h0'⟩
 have hone : rk (fun _ => b) 1 b = 0 := by
  unfold rk
  rw [if_neg (show ¬ rk (fun _ => b) 0 b < (0 : Nat) from by show ¬ (0 : Int) < 0; decide), if_pos rfl]; rfl
 have hone' : ∀ c : Int, rk (fun _ => b) 1 c < (1 : Nat) → c = b := fun c hc => (rk_at (f := fun _ => b) hc).symm
 have h1 : (f.lie g 1 fun _ => b).Stab l' := hl'.stab.lie (.inr (by rw [← hb, hone]; decide)) fun c c0 c1 hne hc _ => absurd ((hone' c hc).trans hb) fun e => hne e.symm
 obtain ⟨N1, hN1⟩ := Best.exists (lie_ok hf (g := g) (L := 1) (e := fun _ => b) (fun _ _ _ => ⟨hp, b1⟩) (fun x y _ _ _ _ _ => by omega))
 have hN1g : ∀ s, (f.lie g 1 fun _ => b).Stab s → s g ≠ -1 := fun s hs h => by
  have h2 := ((hN1.share hs).who g g0 g1).2 h
  have h3 := ((hN1.share h1).who g g0 g1).1 h2
  omega
 obtain ⟨k, hk⟩ : ∃ k : Nat, (k : Int) = f.rg g b + 1 := ⟨(f.rg g b + 1).toNat, by omega⟩
 have hcut : ∀ {c : Int}, rk (f.ge g) k c < k → f.rg g c = rk (f.ge g) k c := fun h => rk_cut' (by omega) h
 have hcutb : rk (f.ge g) k b = f.rg g b := rk_cut (n := f.gl g) (by omega) (by unfold rg at hk; omega)
 obtain ⟨N, hN⟩ := Best.exists (lie_ok hf (g := g) (L := k) (e := f.ge g) (fun i i0 i1 => hf.gr g i g0 g1 i0 (by omega)) (fun x y x0 x1 y0 y1 => hf.gd g g0 g1 x y x0 (by omega) y0 (by omega)))
 have hNg : N g ≠ -1 := fun h => by
  refine hN1g N (hN.stab.lie (.inl h) fun c c0 c1 hne hc _ => ?_) h
  have e := hone' c hc
  rw [e]
  exact ⟨by rw [hcutb]; omega, fun ⟨q, _⟩ => by omega⟩
 have hNk : rk (f.ge g) k (N g) < k := by
  rcases hN.stab.poss.at_ g g0 g1 with h | ⟨_, h⟩
  ·exact absurd h hNg
  ·exact (lie_know.1 h).1
 have hNr := hcut hNk
 have hNp : 0 ≤ N g := by
  rcases hN.stab.poss.at_ g g0 g1 with h | ⟨h, _⟩
  ·exact absurd h hNg
  ·exact h.1
 have hNs : f.Stab N := by
  have := hN.stab.lie (L' := f.gl g) (e' := f.ge g) (.inr (by unfold rg at hNr; omega)) fun c c0 c1 hne hc hnb => by
   have h2 : rk (f.ge g) (f.gl g) c < k := by
    have : ¬ rk (f.ge g) (f.gl g) (N g) < rk (f.ge g) (f.gl g) c := fun h => hnb ⟨hNp, h⟩
    unfold rg at hNr
    omega
   have h3 := rk_cut (n := f.gl g) (by omega) h2
   unfold rg at hNr
   exact ⟨by omega, fun ⟨_, h⟩ => hnb ⟨hNp, by omega⟩⟩
  rw [lie_self] at this
  exact this
 have := hl.best N hNs g g0 g1 hNg
 exact ⟨by omega, by omega⟩
def lik (f : Fair) (g a b : Int) : Prop := 0 ≤ a ∧ (b < 0 ∨ f.rg g a < f.rg g b)
instance (f : Fair) (g a b : Int) : Decidable (f.lik g a b) := by unfold lik; exact inferInstance
end Fair
end Go.Proofs.Ytlldeifbfpmbaaa
