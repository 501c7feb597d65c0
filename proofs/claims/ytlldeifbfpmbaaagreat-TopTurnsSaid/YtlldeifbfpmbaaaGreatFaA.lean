import Derived.Test.YtlldeifbfpmbaaaGreatSum
set_option maxRecDepth 100000
namespace Go.Proofs.YtlldeifbfpmbaaaGreat
open Go.RowKit Go.Proofs
def rk (f : Int → Int) : Nat → Int → Int
 | 0, _ => 0
 | n + 1, x => if rk f n x < n then rk f n x else if f n = x then n else n + 1
theorem rk_rng (f : Int → Int) (x : Int) : ∀ n : Nat, 0 ≤ rk f n x ∧ rk f n x ≤ n
 | 0 => ⟨Int.le_refl _, Int.le_refl _⟩
 | n + 1 => by
  have h := rk_rng f x n
  unfold rk
  split
  ·omega
  ·split <;> omega
theorem rk_at {f : Int → Int} {x : Int} : ∀ {n : Nat}, rk f n x < n → f (rk f n x) = x
 | 0, h => absurd h (by show ¬ (0 : Int) < 0; decide)
 | n + 1, h => by
  unfold rk at h ⊢
  split
  ·exact rk_at ‹_›
  ·rename_i h1
   rw [if_neg h1] at h
   split
   ·assumption
   ·rename_i h2
    rw [if_neg h2] at h
    omega
theorem rk_ne {f : Int → Int} {x : Int} : ∀ {n : Nat} {k : Int}, 0 ≤ k → k < rk f n x → f k ≠ x
 | 0, k, k0, h => by have h2 : k < 0 := h; omega
 | n + 1, k, k0, h => by
  have hr := rk_rng f x n
  unfold rk at h
  split at h
  ·exact rk_ne k0 h
  ·split at h
   ·exact rk_ne (n := n) k0 (by omega)
   ·rename_i h1 h2
    by_cases e : k = n
    ·rw [e]; exact h2
    ·exact rk_ne (n := n) k0 (by omega)
theorem rk_of {f : Int → Int} {n : Nat} {k x : Int} (hd : ∀ a b : Int, 0 ≤ a → a < n → 0 ≤ b → b < n → f a = f b → a = b) (k0 : 0 ≤ k) (k1 : k < n) (e : f k = x) : rk f n x = k := by
 have hr := rk_rng f x n
 have h1 : rk f n x < n := Classical.byContradiction fun h => rk_ne (n := n) k0 (by omega) e
 exact hd _ _ hr.1 h1 k0 k1 ((rk_at h1).trans e.symm)
structure Fair where
 n : Nat
 m : Nat
 gl : Int → Nat
 ge : Int → Int → Int
 bl : Int → Nat
 be : Int → Int → Int
 q : Int → Int
namespace Fair
structure Ok (f : Fair) : Prop where
 gr : ∀ g k : Int, 0 ≤ g → g < f.n → 0 ≤ k → k < f.gl g → 0 ≤ f.ge g k ∧ f.ge g k < f.m
 gd : ∀ g : Int, 0 ≤ g → g < f.n → ∀ a b : Int, 0 ≤ a → a < f.gl g → 0 ≤ b → b < f.gl g → f.ge g a = f.ge g b → a = b
 br : ∀ b k : Int, 0 ≤ b → b < f.m → 0 ≤ k → k < f.bl b → 0 ≤ f.be b k ∧ f.be b k < f.n
 bd : ∀ b : Int, 0 ≤ b → b < f.m → ∀ x y : Int, 0 ≤ x → x < f.bl b → 0 ≤ y → y < f.bl b → f.be b x = f.be b y → x = y
 q0 : ∀ b : Int, 0 ≤ b → b < f.m → 0 ≤ f.q b
def rg (f : Fair) (g b : Int) : Int := rk (f.ge g) (f.gl g) b
def rb (f : Fair) (b g : Int) : Int := rk (f.be b) (f.bl b) g
def know (f : Fair) (g b : Int) : Prop := f.rg g b < f.gl g ∧ f.rb b g < f.bl b
instance (f : Fair) (g b : Int) : Decidable (f.know g b) := by unfold know; exact inferInstance
def cnt (f : Fair) (l : Int → Int) (b : Int) : Int := sm (fun g => if l g = b then 1 else 0) f.n
structure Poss (f : Fair) (l : Int → Int) : Prop where
 at_ : ∀ g : Int, 0 ≤ g → g < f.n → l g = -1 ∨ (0 ≤ l g ∧ l g < f.m) ∧ f.know g (l g)
 cnt : ∀ b : Int, 0 ≤ b → b < f.m → f.cnt l b ≤ f.q b
def Blk (f : Fair) (l : Int → Int) (g b : Int) : Prop :=
 l g ≠ b ∧ f.know g b ∧ ¬ (0 ≤ l g ∧ f.rg g (l g) < f.rg g b) ∧ (f.cnt l b < f.q b ∨ ∃ i : Int, (0 ≤ i ∧ i < f.n) ∧ l i = b ∧ f.rb b g < f.rb b i)
structure Stab (f : Fair) (l : Int → Int) : Prop where
 poss : f.Poss l
 none : ∀ g b : Int, 0 ≤ g → g < f.n → 0 ≤ b → b < f.m → ¬ f.Blk l g b
theorem cnt_nonneg (f : Fair) (l : Int → Int) (b : Int) : 0 ≤ f.cnt l b := sm_nonneg fun g _ _ => by split <;> omega
theorem cnt_pos {f : Fair} {l : Int → Int} {g b : Int} (g0 : 0 ≤ g) (g1 : g < f.n) (h : l g = b) : 1 ≤ f.cnt l b := by
 have := sm_pos (f := fun g => if l g = b then (1 : Int) else 0) (k := f.n) (fun i _ _ => by split <;> omega) g g0 g1
 rw [if_pos h] at this
 exact this
theorem cnt_upd {f : Fair} {l : Int → Int} {g x b : Int} (g0 : 0 ≤ g) (g1 : g < f.n) : f.cnt (upd l g x) b = f.cnt l b - (if l g = b then 1 else 0) + (if x = b then 1 else 0) := by
 unfold cnt
 have e : (fun i => if upd l g x i = b then (1 : Int) else 0) = upd (fun i => if l i = b then 1 else 0) g (if x = b then 1 else 0) := by
  funext i
  unfold upd
  by_cases c : i = g
  ·rw [if_pos c, if_pos c]
  ·rw [if_neg c, if_neg c]
 rw [e, sm_upd _ _ _ g0 g1]
theorem cnt_more {f : Fair} {l s : Int → Int} {b w : Int} (hs : ∀ i : Int, 0 ≤ i → i < f.n → l i = b → s i = b) (w0 : 0 ≤ w) (w1 : w < f.n) (hw : s w = b) (hl : l w ≠ b) : f.cnt l b + 1 ≤ f.cnt s b := by
 have e : f.cnt (upd l w b) b = f.cnt l b + 1 := by rw [cnt_upd w0 w1, if_neg hl, if_pos rfl]; omega
 rw [← e]
 refine sm_le fun i i0 i1 => ?_
 by_cases c : i = w
 ·rw [c, if_pos (upd_same _ _ _), if_pos hw]
  exact Int.le_refl _
 ·rw [upd_ne _ _ c]
  by_cases c2 : l i = b
  ·rw [if_pos c2, if_pos (hs i i0 i1 c2)]
   exact Int.le_refl _
  ·rw [if_neg c2]
   split <;> omega
theorem cnt_congr {f : Fair} {l s : Int → Int} {b : Int} (h : ∀ i : Int, 0 ≤ i → i < f.n → (l i = b ↔ s i = b)) : f.cnt l b = f.cnt s b := sm_congr fun i i0 i1 => by
 by_cases c : l i = b
 ·rw [if_pos c, if_pos ((h i i0 i1).1 c)]
 ·rw [if_neg c, if_neg fun e => c ((h i i0 i1).2 e)]
theorem rg_at {f : Fair} (hf : f.Ok) {g k : Int} (g0 : 0 ≤ g) (g1 : g < f.n) (k0 : 0 ≤ k) (k1 : k < f.gl g) : f.rg g (f.ge g k) = k := rk_of (hf.gd g g0 g1) k0 k1 rfl
theorem ge_rg {f : Fair} {g b : Int} (h : f.rg g b < f.gl g) : f.ge g (f.rg g b) = b := rk_at h
theorem rg_nonneg (f : Fair) (g b : Int) : 0 ≤ f.rg g b := (rk_rng _ _ _).1
theorem rb_inj {f : Fair} {b g h : Int} (hg : f.rb b g < f.bl b) (e : f.rb b g = f.rb b h) : g = h := by
 have h1 := rk_at (f := f.be b) (n := f.bl b) (x := g) hg
 have h2 := rk_at (f := f.be b) (n := f.bl b) (x := h) (by unfold rb at e hg; omega)
 unfold rb at e
 rw [e] at h1
 exact h1.symm.trans h2
structure DA (f : Fair) (l nx : Int → Int) : Prop where
 nxr : ∀ g : Int, 0 ≤ g → g < f.n → 0 ≤ nx g ∧ nx g ≤ f.gl g
 at_ : ∀ g : Int, 0 ≤ g → g < f.n → l g ≠ -1 → 0 < nx g ∧ l g = f.ge g (nx g - 1) ∧ f.know g (l g)
 cnt : ∀ b : Int, 0 ≤ b → b < f.m → f.cnt l b ≤ f.q b
 rej : ∀ g : Int, 0 ≤ g → g < f.n → ∀ k : Int, 0 ≤ k → k < nx g → f.ge g k ≠ l g → f.know g (f.ge g k) → f.cnt l (f.ge g k) = f.q (f.ge g k) ∧ ∀ i : Int, 0 ≤ i → i < f.n → l i = f.ge g k → f.rb (f.ge g k) i < f.rb (f.ge g k) g
 opt : ∀ s, f.Stab s → ∀ g : Int, 0 ≤ g → g < f.n → ∀ k : Int, 0 ≤ k → k < nx g → f.ge g k ≠ l g → s g ≠ f.ge g k
theorem DA.init (f : Fair) (hq : ∀ b : Int, 0 ≤ b → b < f.m → 0 ≤ f.q b) : f.DA (fun _ => -1) (fun _ => 0) := by
 refine ⟨fun g _ _ => ⟨Int.le_refl _, by omega⟩, fun g _ _ h => absurd rfl h, fun b b0 b1 => ?_, fun g _ _ k k0 k1 => by omega, fun s _ g _ _ k k0 k1 => by omega⟩
 have e : f.cnt (fun _ => -1) b = 0 := by
  unfold Fair.cnt
  rw [sm_congr (g := fun _ => 0) fun i _ _ => if_neg (show ¬ (-1 : Int) = b by omega), sm_const 0 (by omega)]
  omega
 rw [e]
 exact hq b b0 b1
section
variable {f : Fair} {l nx : Int → Int} (hf : f.Ok) (h : f.DA l nx) {g : Int} (g0 : 0 ≤ g) (g1 : g < f.n) (hl : l g = -1) (hn : nx g < f.gl g)
include hf h g0 g1 hl hn
theorem DA.skip (hk : ¬ f.know g (f.ge g (nx g)) ∨ f.q (f.ge g (nx g)) = 0) : f.DA l (upd nx g (nx g + 1)) := by
 have hnx := h.nxr g g0 g1
 have hbr := hf.gr g (nx g) g0 g1 hnx.1 hn
 refine ⟨fun i i0 i1 => ?_, fun i i0 i1 hi => ?_, h.cnt, fun i i0 i1 k k0 k1 hne hkn => ?_, fun s hs i i0 i1 k k0 k1 hne => ?_⟩
 ·unfold upd
  split
  ·rename_i e; rw [e]; omega
  ·exact h.nxr i i0 i1
 ·have : i ≠ g := fun e => hi (by rw [e]; exact hl)
  rw [upd_ne _ _ this]
  exact h.at_ i i0 i1 hi
 ·unfold upd at k1
  split at k1
  ·rename_i e
   subst e
   by_cases c : k = nx i
   ·subst c
    rcases hk with hk | hk
    ·exact absurd hkn hk
    ·have h1 := h.cnt _ hbr.1 hbr.2
     have h2 := cnt_nonneg f l (f.ge i (nx i))
     refine ⟨by omega, fun j j0 j1 hj => ?_⟩
     have := cnt_pos (f := f) j0 j1 hj
     omega
   ·exact h.rej i i0 i1 k k0 (by omega) hne hkn
  ·exact h.rej i i0 i1 k k0 k1 hne hkn
 ·unfold upd at k1
  split at k1
  ·rename_i e
   subst e
   by_cases c : k = nx i
   ·subst c
    intro hsb
    rcases hs.poss.at_ i i0 i1 with h1 | ⟨h1, h2⟩
    ·omega
    ·rcases hk with hk | hk
     ·rw [hsb] at h2; exact hk h2
     ·have h3 := cnt_pos (f := f) i0 i1 hsb
      have h4 := hs.poss.cnt _ hbr.1 hbr.2
      omega
   ·exact h.opt s hs i i0 i1 k k0 (by omega) hne
  ·exact h.opt s hs i i0 i1 k k0 k1 hne
theorem DA.take (hk : f.know g (f.ge g (nx g))) (hc : f.cnt l (f.ge g (nx g)) < f.q (f.ge g (nx g))) : f.DA (upd l g (f.ge g (nx g))) (upd nx g (nx g + 1)) := by
 have hnx := h.nxr g g0 g1
 have hbr := hf.gr g (nx g) g0 g1 hnx.1 hn
 obtain ⟨b, hb⟩ : ∃ b, b = f.ge g (nx g) := ⟨_, rfl⟩
 rw [← hb] at hk hc hbr ⊢
 have hcb : ∀ c : Int, 0 ≤ c → c ≠ b → f.cnt (upd l g b) c = f.cnt l c := fun c c0 hne => by
  rw [cnt_upd g0 g1, if_neg (by omega), if_neg (fun e => hne e.symm)]
  omega
 have hcb2 : f.cnt (upd l g b) b = f.cnt l b + 1 := by
  rw [cnt_upd g0 g1, if_neg (by omega), if_pos rfl]
  omega
 refine ⟨fun i i0 i1 => ?_, fun i i0 i1 hi => ?_, fun c c0 c1 => ?_, fun i i0 i1 k k0 k1 hne hkn => ?_, fun s hs i i0 i1 k k0 k1 hne => ?_⟩
 ·unfold upd
  split
  ·rename_i e; rw [e]; omega
  ·exact h.nxr i i0 i1
 ·by_cases e : i = g
  ·rw [e, upd_same, upd_same]
   exact ⟨by omega, by rw [hb, show nx g + 1 - 1 = nx g by omega], hk⟩
  ·rw [upd_ne _ _ e] at hi
   rw [upd_ne _ _ e, upd_ne _ _ e]
   exact h.at_ i i0 i1 hi
 ·by_cases e : c = b
  ·rw [e, hcb2]; omega
  ·rw [hcb c c0 e]; exact h.cnt c c0 c1
 ·have hnb : f.ge i k ≠ b := fun e => by
   by_cases c : i = g
   ·subst c
    rw [upd_same] at hne
    exact hne e
   ·rw [upd_ne _ _ c] at k1 hne
    have := (h.rej i i0 i1 k k0 k1 hne hkn).1
    rw [e] at this
    omega
  have hki : k < nx i := by
   unfold upd at k1
   split at k1
   ·rename_i e
    subst e
    by_cases c : k = nx i
    ·exact absurd (by rw [c, hb]) hnb
    ·omega
   ·exact k1
  have hne2 : f.ge i k ≠ l i := by
   by_cases c : i = g
   ·rw [c, hl]
    have := hf.gr g k g0 g1 k0 (by rw [c] at hki; omega)
    omega
   ·rw [upd_ne _ _ c] at hne; exact hne
  have hgr := hf.gr i k i0 i1 k0 (by have := h.nxr i i0 i1; omega)
  obtain ⟨h1, h2⟩ := h.rej i i0 i1 k k0 hki hne2 hkn
  refine ⟨by rw [hcb _ hgr.1 hnb]; exact h1, fun j j0 j1 hj => h2 j j0 j1 ?_⟩
  by_cases c : j = g
  ·rw [c, upd_same] at hj; exact absurd hj.symm hnb
  ·rw [upd_ne _ _ c] at hj; exact hj
 ·by_cases c : i = g
  ·subst c
   rw [upd_same] at k1 hne
   have hk2 : k < nx i := by
    by_cases c : k = nx i
    ·exact absurd (by rw [c, hb]) hne
    ·omega
   refine h.opt s hs i i0 i1 k k0 hk2 ?_
   rw [hl]
   have := hf.gr i k g0 g1 k0 (by omega)
   omega
  ·rw [upd_ne _ _ c] at k1 hne
   exact h.opt s hs i i0 i1 k k0 k1 hne
theorem DA.swap (hk : f.know g (f.ge g (nx g))) (hq : f.q (f.ge g (nx g)) ≤ f.cnt l (f.ge g (nx g))) {w : Int} (w0 : 0 ≤ w) (w1 : w < f.n) (hw : upd l g (f.ge g (nx g)) w = f.ge g (nx g))
  (hworst : ∀ i : Int, 0 ≤ i → i < f.n → upd l g (f.ge g (nx g)) i = f.ge g (nx g) → f.rb (f.ge g (nx g)) i ≤ f.rb (f.ge g (nx g)) w) : f.DA (upd (upd l g (f.ge g (nx g))) w (-1)) (upd nx g (nx g + 1)) := by
 have hnx := h.nxr g g0 g1
 have hbr := hf.gr g (nx g) g0 g1 hnx.1 hn
 obtain ⟨b, hb⟩ : ∃ b, b = f.ge g (nx g) := ⟨_, rfl⟩
 rw [← hb] at hk hq hbr hw hworst ⊢
 have hcnt := h.cnt b hbr.1 hbr.2
 have hcq : f.cnt l b = f.q b := by omega
 have hcb : ∀ c : Int, 0 ≤ c → f.cnt (upd (upd l g b) w (-1)) c = f.cnt l c := fun c c0 => by
  rw [cnt_upd w0 w1, cnt_upd g0 g1, hw, hl, if_neg (show ¬ (-1 : Int) = c by omega)]
  split <;> omega
 have hkw : f.know w b := by
  by_cases e : w = g
  ·rw [e]; exact hk
  ·rw [upd_ne _ _ e] at hw
   have := (h.at_ w w0 w1 (by omega)).2.2
   rw [hw] at this
   exact this
 have hkh : ∀ i : Int, 0 ≤ i → i < f.n → upd l g b i = b → f.know i b := fun i i0 i1 hi => by
  by_cases e : i = g
  ·rw [e]; exact hk
  ·rw [upd_ne _ _ e] at hi
   have := (h.at_ i i0 i1 (by omega)).2.2
   rw [hi] at this
   exact this
 have hbest : ∀ i : Int, 0 ≤ i → i < f.n → upd (upd l g b) w (-1) i = b → f.rb b i < f.rb b w := fun i i0 i1 hi => by
  have hiw : i ≠ w := fun e => by rw [e, upd_same] at hi; omega
  rw [upd_ne _ _ hiw] at hi
  have h1 := hworst i i0 i1 hi
  have h2 : f.rb b i ≠ f.rb b w := fun e => hiw (rb_inj (hkh i i0 i1 hi).2 e)
  omega
 have cases_ : ∀ i k : Int, 0 ≤ i → i < f.n → 0 ≤ k → k < upd nx g (nx g + 1) i → f.ge i k ≠ upd (upd l g b) w (-1) i → (i = w ∧ f.ge i k = b) ∨ (k < nx i ∧ f.ge i k ≠ l i) := fun i k i0 i1 k0 k1 hne => by
  by_cases c : i = w ∧ f.ge i k = b
  ·exact .inl c
  ·right
   have hkn : k < nx i := by
    unfold upd at k1
    split at k1
    ·rename_i e
     subst e
     by_cases c2 : k = nx i
     ·have e2 : f.ge i k = b := by rw [c2, hb]
      have hiw : i ≠ w := fun e => c ⟨e, e2⟩
      rw [upd_ne _ _ hiw, upd_same] at hne
      exact absurd e2 hne
     ·omega
    ·exact k1
   refine ⟨hkn, fun e => ?_⟩
   by_cases c2 : i = g
   ·have := hf.gr i k i0 i1 k0 (by have := h.nxr i i0 i1; omega)
    rw [e, c2, hl] at this
    omega
   ·by_cases c3 : i = w
    ·subst c3
     rw [upd_ne _ _ c2] at hw
     exact c ⟨rfl, by rw [e, hw]⟩
    ·rw [upd_ne _ _ c3, upd_ne _ _ c2] at hne
     exact hne e
 refine ⟨fun i i0 i1 => ?_, fun i i0 i1 hi => ?_, fun c c0 c1 => ?_, fun i i0 i1 k k0 k1 hne hkn => ?_, fun s hs i i0 i1 k k0 k1 hne => ?_⟩
 ·unfold upd
  split
  ·rename_i e; rw [e]; omega
  ·exact h.nxr i i0 i1
 ·have hiw : i ≠ w := fun e => by rw [e, upd_same] at hi; exact hi rfl
  rw [upd_ne _ _ hiw] at hi ⊢
  by_cases e : i = g
  ·rw [e, upd_same, upd_same]
   exact ⟨by omega, by rw [hb, show nx g + 1 - 1 = nx g by omega], hk⟩
  ·rw [upd_ne _ _ e] at hi
   rw [upd_ne _ _ e, upd_ne _ _ e]
   exact h.at_ i i0 i1 hi
 ·rw [hcb c c0]; exact h.cnt c c0 c1
 ·rcases cases_ i k i0 i1 k0 k1 hne with ⟨e1, e2⟩ | ⟨e1, e2⟩
  ·subst e1
   rw [e2, hcb b hbr.1]
   exact ⟨hcq, hbest⟩
  ·have hgr := hf.gr i k i0 i1 k0 (by have := h.nxr i i0 i1; omega)
   obtain ⟨h1, h2⟩ := h.rej i i0 i1 k k0 e1 e2 hkn
   refine ⟨by rw [hcb _ hgr.1]; exact h1, fun j j0 j1 hj => ?_⟩
   have hjw : j ≠ w := fun e => by rw [e, upd_same] at hj; omega
   by_cases c : f.ge i k = b
   ·rw [c] at hj h2 ⊢
    have h3 := hbest j j0 j1 hj
    by_cases cw : w = g
    ·rw [upd_ne _ _ hjw, upd_ne _ _ (by rw [← cw]; exact hjw)] at hj
     exact h2 j j0 j1 hj
    ·rw [upd_ne _ _ cw] at hw
     have := h2 w w0 w1 hw
     omega
   ·rw [upd_ne _ _ hjw] at hj
    by_cases cg : j = g
    ·rw [cg, upd_same] at hj
     exact absurd hj.symm c
    ·rw [upd_ne _ _ cg] at hj
     exact h2 j j0 j1 hj
 ·rcases cases_ i k i0 i1 k0 k1 hne with ⟨e1, e2⟩ | ⟨e1, e2⟩
  ·subst e1
   rw [e2]
   intro hsw
   have hex : ∃ j : Int, (0 ≤ j ∧ j < f.n) ∧ upd (upd l g b) i (-1) j = b ∧ s j ≠ b := Classical.byContradiction fun hno => by
    have := cnt_more (f := f) (l := upd (upd l g b) i (-1)) (s := s) (b := b) (w := i) (fun j j0 j1 hj => Classical.byContradiction fun hsj => hno ⟨j, ⟨j0, j1⟩, hj, hsj⟩) i0 i1 hsw (by rw [upd_same]; omega)
    rw [hcb b hbr.1] at this
    have := hs.poss.cnt b hbr.1 hbr.2
    omega
   obtain ⟨j, ⟨j0, j1⟩, hj, hsj⟩ := hex
   have hji : j ≠ i := fun e => by rw [e, upd_same] at hj; omega
   have hrb := hbest j j0 j1 hj
   rw [upd_ne _ _ hji] at hj
   have hkj := hkh j j0 j1 hj
   refine hs.none j b j0 j1 hbr.1 hbr.2 ⟨hsj, hkj, fun ⟨hp, hlt⟩ => ?_, .inr ⟨i, ⟨i0, i1⟩, hsw, hrb⟩⟩
   have hr0 := rg_nonneg f j (s j)
   have hlt2 : f.rg j (s j) < f.gl j := by have := hkj.1; omega
   have hge := ge_rg hlt2
   by_cases cg : j = g
   ·have hrb2 : f.rg j b = nx g := by rw [hb, cg]; exact rg_at hf g0 g1 hnx.1 hn
    refine h.opt s hs j j0 j1 (f.rg j (s j)) hr0 (by rw [cg] at hlt hrb2 ⊢; omega) (by rw [hge, cg, hl]; rw [cg] at hp; omega) hge.symm
   ·rw [upd_ne _ _ cg] at hj
    obtain ⟨p1, p2, _⟩ := h.at_ j j0 j1 (by omega)
    have hnj := h.nxr j j0 j1
    have hrb2 : f.rg j b = nx j - 1 := by rw [← hj, p2]; exact rg_at hf j0 j1 (by omega) (by omega)
    exact h.opt s hs j j0 j1 (f.rg j (s j)) hr0 (by omega) (by rw [hge, hj]; exact hsj) hge.symm
  ·exact h.opt s hs i i0 i1 k k0 e1 e2
end
theorem DA.stab {f : Fair} {l nx : Int → Int} (hf : f.Ok) (h : f.DA l nx) (hend : ∀ g : Int, 0 ≤ g → g < f.n → l g = -1 → nx g = f.gl g) : f.Stab l := by
 refine ⟨⟨fun g g0 g1 => ?_, h.cnt⟩, fun g b g0 g1 b0 b1 ⟨h1, h2, h3, h4⟩ => ?_⟩
 ·by_cases c : l g = -1
  ·exact .inl c
  ·obtain ⟨p1, p2, p3⟩ := h.at_ g g0 g1 c
   have hn := h.nxr g g0 g1
   exact .inr ⟨by rw [p2]; exact hf.gr g _ g0 g1 (by omega) (by omega), p3⟩
 ·have hr0 := rg_nonneg f g b
  have hge := ge_rg h2.1
  have hlt : f.rg g b < nx g := by
   by_cases c : l g = -1
   ·rw [hend g g0 g1 c]; exact h2.1
   ·obtain ⟨p1, p2, p3⟩ := h.at_ g g0 g1 c
    have hn := h.nxr g g0 g1
    have e : f.rg g (l g) = nx g - 1 := by rw [p2]; exact rg_at hf g0 g1 (by omega) (by omega)
    have hp : 0 ≤ l g := by rw [p2]; exact (hf.gr g _ g0 g1 (by omega) (by omega)).1
    have : ¬ f.rg g (l g) < f.rg g b := fun hh => h3 ⟨hp, hh⟩
    omega
  obtain ⟨r1, r2⟩ := h.rej g g0 g1 (f.rg g b) hr0 hlt (by rw [hge]; exact fun e => h1 e.symm) (by rw [hge]; exact h2)
  rw [hge] at r1 r2
  rcases h4 with h4 | ⟨i, ⟨i0, i1⟩, hi, hlt2⟩
  ·omega
  ·have := r2 i i0 i1 hi
   omega
theorem DA.best {f : Fair} {l nx : Int → Int} (hf : f.Ok) (h : f.DA l nx) (hend : ∀ g : Int, 0 ≤ g → g < f.n → l g = -1 → nx g = f.gl g) {s : Int → Int} (hs : f.Stab s) {g : Int} (g0 : 0 ≤ g) (g1 : g < f.n) (hne : s g ≠ -1) : 0 ≤ l g ∧ f.rg g (l g) ≤ f.rg g (s g) := by
 rcases hs.poss.at_ g g0 g1 with h1 | ⟨h1, h2⟩
 ·exact absurd h1 hne
 ·have hr0 := rg_nonneg f g (s g)
  have hge := ge_rg h2.1
  have hn := h.nxr g g0 g1
  by_cases c : l g = -1
  ·exact absurd hge.symm (h.opt s hs g g0 g1 (f.rg g (s g)) hr0 (by rw [hend g g0 g1 c]; exact h2.1) (by rw [hge, c]; omega))
  ·obtain ⟨p1, p2, p3⟩ := h.at_ g g0 g1 c
   have e : f.rg g (l g) = nx g - 1 := by rw [p2]; exact rg_at hf g0 g1 (by omega) (by omega)
   refine ⟨by rw [p2]; exact (hf.gr g _ g0 g1 (by omega) (by omega)).1, Classical.byContradiction fun hlt => ?_⟩
   refine h.opt s hs g g0 g1 (f.rg g (s g)) hr0 (by omega) (fun e2 => ?_) hge.symm
   rw [hge] at e2
   rw [e2] at hlt
   omega
end Fair
end Go.Proofs.YtlldeifbfpmbaaaGreat
