import Derived.Test.YtlldeifbfpmbaaaFaB
set_option maxRecDepth 100000
namespace Go.Proofs.Ytlldeifbfpmbaaa
open Go.RowKit Go.Proofs
theorem max_ex (p : Int → Prop) (F : Int → Int) : ∀ n : Nat, (∃ i : Int, (0 ≤ i ∧ i < n) ∧ p i) → ∃ i : Int, (0 ≤ i ∧ i < n) ∧ p i ∧ ∀ j : Int, 0 ≤ j → j < n → p j → F j ≤ F i
 | 0, ⟨i, ⟨h0, h1⟩, _⟩ => absurd h1 (by omega)
 | n + 1, ⟨i, ⟨h0, h1⟩, hp⟩ => by
  by_cases c : ∃ i : Int, (0 ≤ i ∧ i < n) ∧ p i
  ·obtain ⟨w, ⟨w0, w1⟩, wp, wm⟩ := max_ex p F n c
   by_cases d : p n ∧ F w < F n
   ·refine ⟨n, ⟨by omega, by omega⟩, d.1, fun j j0 j1 hj => ?_⟩
    by_cases e : j = n
    ·rw [e]; exact Int.le_refl _
    ·have := wm j j0 (by omega) hj
     omega
   ·refine ⟨w, ⟨w0, by omega⟩, wp, fun j j0 j1 hj => ?_⟩
    by_cases e : j = n
    ·rw [e] at hj ⊢
     exact Classical.byContradiction fun h => d ⟨hj, by omega⟩
    ·exact wm j j0 (by omega) hj
  ·have e : i = n := Classical.byContradiction fun e => c ⟨i, ⟨h0, by omega⟩, hp⟩
   rw [e] at hp
   refine ⟨n, ⟨by omega, by omega⟩, hp, fun j j0 j1 hj => ?_⟩
   have e : j = n := Classical.byContradiction fun e => c ⟨j, ⟨j0, by omega⟩, hj⟩
   rw [e]
   exact Int.le_refl _
namespace Fair
theorem DA.exists {f : Fair} (hf : f.Ok) : ∀ (t : Nat) {l nx : Int → Int}, f.DA l nx → sm (fun g => f.gl g - nx g) f.n = t → ∃ l' nx', f.DA l' nx' ∧ ∀ g : Int, 0 ≤ g → g < f.n → l' g = -1 → nx' g = f.gl g := by
 intro t
 induction t with
 | zero =>
  intro l nx h ht
  refine ⟨l, nx, h, fun g g0 g1 _ => ?_⟩
  have := sm_pos (f := fun g => (f.gl g : Int) - nx g) (k := f.n) (fun i i0 i1 => by have := h.nxr i i0 i1; omega) g g0 g1
  have := h.nxr g g0 g1
  omega
 | succ t ih =>
  intro l nx h ht
  by_cases c : ∃ g : Int, (0 ≤ g ∧ g < f.n) ∧ l g = -1 ∧ nx g < f.gl g
  ·obtain ⟨g, ⟨g0, g1⟩, hl, hn⟩ := c
   have hm : sm (fun i => f.gl i - upd nx g (nx g + 1) i) f.n = t := by
    have e : (fun i => (f.gl i : Int) - upd nx g (nx g + 1) i) = upd (fun i => f.gl i - nx i) g (f.gl g - nx g - 1) := by
     funext i
     unfold upd
     by_cases c : i = g
     ·rw [if_pos c, if_pos c, c]; omega
     ·rw [if_neg c, if_neg c]
    rw [e, sm_upd _ _ _ g0 g1]
    omega
   by_cases hk : f.know g (f.ge g (nx g))
   ·by_cases hq : f.q (f.ge g (nx g)) ≤ f.cnt l (f.ge g (nx g))
    ·obtain ⟨w, ⟨w0, w1⟩, hw, hmax⟩ := max_ex (fun i => upd l g (f.ge g (nx g)) i = f.ge g (nx g)) (f.rb (f.ge g (nx g))) f.n ⟨g, ⟨g0, g1⟩, upd_same _ _ _⟩
     exact ih (h.swap hf g0 g1 hl hn hk hq w0 w1 hw hmax) hm
    ·exact ih (h.take hf g0 g1 hl hn hk (by omega)) hm
   ·exact ih (h.skip hf g0 g1 hl hn (.inl hk)) hm
  ·refine ⟨l, nx, h, fun g g0 g1 hl => Classical.byContradiction fun hne => c ⟨g, ⟨g0, g1⟩, hl, ?_⟩⟩
   have := h.nxr g g0 g1
   omega
theorem Best.exists {f : Fair} (hf : f.Ok) : ∃ l, f.Best l := by
 have h := DA.init f hf.q0
 obtain ⟨l, nx, h1, h2⟩ := DA.exists hf (sm (fun g => f.gl g - 0) f.n).toNat h (by
  have : 0 ≤ sm (fun g => (f.gl g : Int) - 0) f.n := sm_nonneg fun i _ _ => by omega
  omega)
 exact ⟨l, h1.isBest hf h2⟩
theorem Stab.congr {f : Fair} {l s : Int → Int} (h : f.Stab l) (e : ∀ g : Int, 0 ≤ g → g < f.n → l g = s g) : f.Stab s := by
 have hc : ∀ b, f.cnt s b = f.cnt l b := fun b => cnt_congr fun i i0 i1 => by rw [e i i0 i1]
 refine ⟨⟨fun g g0 g1 => by rw [← e g g0 g1]; exact h.poss.at_ g g0 g1, fun b b0 b1 => by rw [hc]; exact h.poss.cnt b b0 b1⟩, fun g b g0 g1 b0 b1 ⟨h1, h2, h3, h4⟩ => h.none g b g0 g1 b0 b1 ?_⟩
 rw [← e g g0 g1] at h1 h3
 refine ⟨h1, h2, h3, ?_⟩
 rw [hc] at h4
 rcases h4 with h4 | ⟨i, ⟨i0, i1⟩, hi, hlt⟩
 ·exact .inl h4
 ·exact .inr ⟨i, ⟨i0, i1⟩, by rw [e i i0 i1]; exact hi, hlt⟩
def lik (f : Fair) (g a b : Int) : Prop := 0 ≤ a ∧ (b < 0 ∨ f.rg g a < f.rg g b)
instance (f : Fair) (g a b : Int) : Decidable (f.lik g a b) := by unfold lik; exact inferInstance
def join (f : Fair) (a b : Int → Int) : Int → Int := fun g => if f.lik g (b g) (a g) then b g else a g
def meet (f : Fair) (a b : Int → Int) : Int → Int := fun g => if f.lik g (b g) (a g) then a g else b g
theorem Stab.full {f : Fair} {s : Int → Int} (h : f.Stab s) {g c : Int} (g0 : 0 ≤ g) (g1 : g < f.n) (c0 : 0 ≤ c) (c1 : c < f.m) (hk : f.know g c) (hl : f.lik g c (s g)) : f.cnt s c = f.q c ∧ ∀ i : Int, 0 ≤ i → i < f.n → s i = c → f.rb c i < f.rb c g := by
 have hne : s g ≠ c := fun e => by
  unfold lik at hl
  rw [e] at hl
  omega
 have hnb := h.none g c g0 g1 c0 c1
 have hcc : ¬ (f.cnt s c < f.q c ∨ ∃ i : Int, (0 ≤ i ∧ i < f.n) ∧ s i = c ∧ f.rb c g < f.rb c i) := fun hh => hnb ⟨hne, hk, fun ⟨h1, h2⟩ => by unfold lik at hl; omega, hh⟩
 have := h.poss.cnt c c0 c1
 refine ⟨Classical.byContradiction fun h => hcc (.inl (by omega)), fun i i0 i1 hi => Classical.byContradiction fun hlt => ?_⟩
 by_cases e : f.rb c g = f.rb c i
 ·have := rb_inj hk.2 e
  rw [← this] at hi
  exact hne hi
 ·exact hcc (.inr ⟨i, ⟨i0, i1⟩, hi, by omega⟩)
theorem Stab.of {f : Fair} {s : Int → Int} (hp : f.Poss s) (h : ∀ g c : Int, 0 ≤ g → g < f.n → 0 ≤ c → c < f.m → f.know g c → s g ≠ c → f.lik g c (s g) → f.q c ≤ f.cnt s c ∧ ∀ i : Int, 0 ≤ i → i < f.n → s i = c → f.rb c i < f.rb c g) : f.Stab s := by
 refine ⟨hp, fun g c g0 g1 c0 c1 ⟨h1, h2, h3, h4⟩ => ?_⟩
 have hl : f.lik g c (s g) := by
  refine ⟨c0, ?_⟩
  by_cases e : s g < 0
  ·exact .inl e
  ·right
   have e1 : ¬ f.rg g (s g) < f.rg g c := fun hh => h3 ⟨by omega, hh⟩
   have e2 : f.rg g c ≠ f.rg g (s g) := fun e => h1 (rg_inj h2.1 e).symm
   omega
 obtain ⟨p1, p2⟩ := h g c g0 g1 c0 c1 h2 h1 hl
 rcases h4 with h4 | ⟨i, ⟨i0, i1⟩, hi, hlt⟩
 ·omega
 ·have := p2 i i0 i1 hi
  omega
theorem lik_or {f : Fair} {a b : Int → Int} (ha : f.Stab a) (hb : f.Stab b) {g : Int} (g0 : 0 ≤ g) (g1 : g < f.n) (hw : a g = -1 ↔ b g = -1) (hne : a g ≠ b g) : f.lik g (a g) (b g) ∨ f.lik g (b g) (a g) := by
 rcases ha.poss.at_ g g0 g1 with h1 | ⟨h1, h2⟩
 ·exact absurd (h1.trans (hw.1 h1).symm) hne
 ·rcases hb.poss.at_ g g0 g1 with h3 | ⟨h3, h4⟩
  ·exact absurd ((hw.2 h3).trans h3.symm) hne
  ·have : f.rg g (a g) ≠ f.rg g (b g) := fun e => hne (rg_inj h2.1 e)
   unfold lik
   omega
theorem sides {f : Fair} {a b : Int → Int} (ha : f.Stab a) (hb : f.Stab b) (hs : f.Share a b) {c : Int} (c0 : 0 ≤ c) (c1 : c < f.m) :
  (∀ g : Int, 0 ≤ g → g < f.n → (f.join a b g = c → a g = c)) ∨ (∀ g : Int, 0 ≤ g → g < f.n → (f.join a b g = c → b g = c)) := by
 by_cases x : ∃ g : Int, (0 ≤ g ∧ g < f.n) ∧ f.join a b g = c ∧ a g ≠ c
 ·by_cases y : ∃ h : Int, (0 ≤ h ∧ h < f.n) ∧ f.join a b h = c ∧ b h ≠ c
  ·exfalso
   obtain ⟨g, ⟨g0, g1⟩, hj, hn⟩ := x
   obtain ⟨h, ⟨h0, h1⟩, hj', hn'⟩ := y
   unfold join at hj hj'
   split at hj
   ·rename_i hl
    rw [hj] at hl
    split at hj'
    ·exact hn' hj'
    ·rename_i hl'
     have hl2 : f.lik h c (b h) := by
      rcases lik_or ha hb h0 h1 (hs.who h h0 h1) (by rw [hj']; exact fun e => hn' e.symm) with e | e
      ·rw [hj'] at e; exact e
      ·exact absurd e hl'
     have hkg : f.know g c := by
      rcases hb.poss.at_ g g0 g1 with e | ⟨_, e⟩
      ·omega
      ·rw [hj] at e; exact e
     have hkh : f.know h c := by
      rcases ha.poss.at_ h h0 h1 with e | ⟨_, e⟩
      ·omega
      ·rw [hj'] at e; exact e
     have r1 := (ha.full g0 g1 c0 c1 hkg hl).2 h h0 h1 hj'
     have r2 := (hb.full h0 h1 c0 c1 hkh hl2).2 g g0 g1 hj
     omega
   ·exact hn hj
  ·exact .inr fun g g0 g1 hj => Classical.byContradiction fun hn => y ⟨g, ⟨g0, g1⟩, hj, hn⟩
 ·exact .inl fun g g0 g1 hj => Classical.byContradiction fun hn => x ⟨g, ⟨g0, g1⟩, hj, hn⟩
theorem join_rng {f : Fair} {a b : Int → Int} (ha : f.Stab a) (hb : f.Stab b) (g : Int) (g0 : 0 ≤ g) (g1 : g < f.n) : f.join a b g = -1 ∨ (0 ≤ f.join a b g ∧ f.join a b g < f.m) := by
 unfold join; split
 ·exact hb.rng g g0 g1
 ·exact ha.rng g g0 g1
theorem sides_ {f : Fair} {a b : Int → Int} (ha : f.Stab a) (hb : f.Stab b) (hs : f.Share a b) {c : Int} (c0 : 0 ≤ c) (c1 : c < f.m) :
  ((∀ g : Int, 0 ≤ g → g < f.n → (f.join a b g = c ↔ a g = c)) ∧ (∀ g : Int, 0 ≤ g → g < f.n → (f.meet a b g = c ↔ b g = c))) ∨ ((∀ g : Int, 0 ≤ g → g < f.n → (f.join a b g = c ↔ b g = c)) ∧ (∀ g : Int, 0 ≤ g → g < f.n → (f.meet a b g = c ↔ a g = c))) := by
 have hle : ∀ c : Int, 0 ≤ c → c < f.m → f.cnt (f.join a b) c ≤ f.cnt a c := fun c c0 c1 => by
  rcases sides ha hb hs c0 c1 with h | h
  ·refine sm_le fun g g0 g1 => ?_
   by_cases e : f.join a b g = c
   ·rw [if_pos e, if_pos (h g g0 g1 e)]; exact Int.le_refl _
   ·rw [if_neg e]; split <;> omega
  ·rw [hs.cnt c c0 c1]
   refine sm_le fun g g0 g1 => ?_
   by_cases e : f.join a b g = c
   ·rw [if_pos e, if_pos (h g g0 g1 e)]; exact Int.le_refl _
   ·rw [if_neg e]; split <;> omega
 have hw : ∀ g : Int, 0 ≤ g → g < f.n → (f.join a b g = -1 ↔ a g = -1) := fun g g0 g1 => by
  unfold join; split
  ·exact (hs.who g g0 g1).symm
  ·exact Iff.rfl
 have htot : f.tot (f.join a b) = f.tot a := sm_congr fun g g0 g1 => by
  by_cases e : a g = -1
  ·rw [if_pos e, if_pos ((hw g g0 g1).2 e)]
  ·rw [if_neg e, if_neg fun e2 => e ((hw g g0 g1).1 e2)]
 have t1 := tot_cnt (join_rng ha hb)
 have t2 := tot_cnt ha.rng
 have hc : f.cnt (f.join a b) c = f.cnt a c := sm_eq hle (by omega) c0 c1
 have hsum : ∀ g : Int, (if f.meet a b g = c then (1 : Int) else 0) = (if a g = c then 1 else 0) + (if b g = c then 1 else 0) - (if f.join a b g = c then 1 else 0) := fun g => by
  unfold meet join
  by_cases e : f.lik g (b g) (a g)
  ·rw [if_pos e, if_pos e]; omega
  ·rw [if_neg e, if_neg e]; omega
 have fin : ∀ x : Int → Int, f.cnt x c = f.cnt (f.join a b) c → (∀ g : Int, 0 ≤ g → g < f.n → (f.join a b g = c → x g = c)) → ∀ g : Int, 0 ≤ g → g < f.n → (f.join a b g = c ↔ x g = c) := fun x hx hsub g g0 g1 => by
  refine ⟨hsub g g0 g1, fun hxg => Classical.byContradiction fun hne => ?_⟩
  have := cnt_more (f := f) (l := f.join a b) (s := x) (b := c) (w := g) hsub g0 g1 hxg hne
  omega
 have fin2 : ∀ x y : Int → Int, (∀ g : Int, (if f.meet a b g = c then (1 : Int) else 0) = (if x g = c then 1 else 0) + (if y g = c then 1 else 0) - (if f.join a b g = c then 1 else 0)) → (∀ g : Int, 0 ≤ g → g < f.n → (f.join a b g = c ↔ x g = c)) → ∀ g : Int, 0 ≤ g → g < f.n → (f.meet a b g = c ↔ y g = c) := fun x y hxy hj g g0 g1 => by
  have h1 := hxy g
  have h2 := hj g g0 g1
  by_cases e1 : f.meet a b g = c <;> by_cases e2 : y g = c
  ·exact ⟨fun _ => e2, fun _ => e1⟩
  ·exfalso
   by_cases e3 : x g = c
   ·rw [if_pos e1, if_pos e3, if_neg e2, if_pos (h2.2 e3)] at h1; omega
   ·rw [if_pos e1, if_neg e3, if_neg e2, if_neg (fun e => e3 (h2.1 e))] at h1; omega
  ·exfalso
   by_cases e3 : x g = c
   ·rw [if_neg e1, if_pos e3, if_pos e2, if_pos (h2.2 e3)] at h1; omega
   ·rw [if_neg e1, if_neg e3, if_pos e2, if_neg (fun e => e3 (h2.1 e))] at h1; omega
  ·exact ⟨fun e => absurd e e1, fun e => absurd e e2⟩
 rcases sides ha hb hs c0 c1 with h | h
 ·have hj := fin a hc.symm h
  exact .inl ⟨hj, fin2 a b hsum hj⟩
 ·have hj := fin b ((hs.cnt c c0 c1).symm.trans hc.symm) h
  exact .inr ⟨hj, fin2 b a (fun g => by rw [hsum g]; omega) hj⟩
theorem meet_rng {f : Fair} {a b : Int → Int} (ha : f.Stab a) (hb : f.Stab b) (g : Int) (g0 : 0 ≤ g) (g1 : g < f.n) : f.meet a b g = -1 ∨ (0 ≤ f.meet a b g ∧ f.meet a b g < f.m) ∧ f.know g (f.meet a b g) := by
 unfold meet; split
 ·exact ha.poss.at_ g g0 g1
 ·exact hb.poss.at_ g g0 g1
theorem join_rng' {f : Fair} {a b : Int → Int} (ha : f.Stab a) (hb : f.Stab b) (g : Int) (g0 : 0 ≤ g) (g1 : g < f.n) : f.join a b g = -1 ∨ (0 ≤ f.join a b g ∧ f.join a b g < f.m) ∧ f.know g (f.join a b g) := by
 unfold join; split
 ·exact hb.poss.at_ g g0 g1
 ·exact ha.poss.at_ g g0 g1
theorem join_stab {f : Fair} {a b : Int → Int} (ha : f.Stab a) (hb : f.Stab b) (hs : f.Share a b) : f.Stab (f.join a b) := by
 have hcnt : ∀ c : Int, 0 ≤ c → c < f.m → f.cnt (f.join a b) c = f.cnt a c := fun c c0 c1 => by
  rcases sides_ ha hb hs c0 c1 with ⟨h, _⟩ | ⟨h, _⟩
  ·exact cnt_congr h
  ·rw [hs.cnt c c0 c1]; exact cnt_congr h
 refine Stab.of ⟨join_rng' ha hb, fun c c0 c1 => by rw [hcnt c c0 c1]; exact ha.poss.cnt c c0 c1⟩ fun g c g0 g1 c0 c1 hk hne hl => ?_
 have hla : f.lik g c (a g) := by
  unfold join at hl
  split at hl
  ·rename_i e
   unfold lik at hl e ⊢
   omega
  ·exact hl
 have hlb : f.lik g c (b g) := by
  by_cases e : a g = b g
  ·rw [← e]; exact hla
  ·rcases lik_or ha hb g0 g1 (hs.who g g0 g1) e with e2 | e2
   ·unfold lik at hla e2 ⊢
    omega
   ·unfold join at hl
    rw [if_pos e2] at hl
    exact hl
 obtain ⟨a1, a2⟩ := ha.full g0 g1 c0 c1 hk hla
 obtain ⟨b1, b2⟩ := hb.full g0 g1 c0 c1 hk hlb
 rw [hcnt c c0 c1]
 refine ⟨by omega, fun i i0 i1 hi => ?_⟩
 rcases sides_ ha hb hs c0 c1 with ⟨h, _⟩ | ⟨h, _⟩
 ·exact a2 i i0 i1 ((h i i0 i1).1 hi)
 ·exact b2 i i0 i1 ((h i i0 i1).1 hi)
theorem meet_aux {f : Fair} {x y : Int → Int} (hx : f.Stab x) (hy : f.Stab y) {g c s : Int} (g0 : 0 ≤ g) (g1 : g < f.n) (c0 : 0 ≤ c) (c1 : c < f.m) (hk : f.know g c) (hcnt : f.cnt x c = f.cnt y c) (hs : s = x g ∨ s = y g) (hJ : ∀ h : Int, 0 ≤ h → h < f.n → y h = c → x h ≠ c → f.lik h c (x h)) (hl : f.lik g c s) : f.q c ≤ f.cnt x c ∧ ∀ i : Int, 0 ≤ i → i < f.n → x i = c → f.rb c i < f.rb c g := by
 by_cases hlx : f.lik g c (x g)
 ·obtain ⟨p1, p2⟩ := hx.full g0 g1 c0 c1 hk hlx
  exact ⟨by omega, p2⟩
 ·have hly : f.lik g c (y g) := by
   rcases hs with e | e
   ·rw [e] at hl; exact absurd hl hlx
   ·rw [e] at hl; exact hl
  obtain ⟨p1, p2⟩ := hy.full g0 g1 c0 c1 hk hly
  refine ⟨by omega, fun i i0 i1 hi => ?_⟩
  by_cases e : y i = c
  ·exact p2 i i0 i1 e
  ·have hex : ∃ h : Int, (0 ≤ h ∧ h < f.n) ∧ y h = c ∧ x h ≠ c := Classical.byContradiction fun hno => by
    have := cnt_more (f := f) (l := y) (s := x) (b := c) (w := i) (fun j j0 j1 hj => Classical.byContradiction fun hn => hno ⟨j, ⟨j0, j1⟩, hj, hn⟩) i0 i1 hi e
    omega
   obtain ⟨h, ⟨h0, h1⟩, hh, hn⟩ := hex
   have hkh : f.know h c := by
    rcases hy.poss.at_ h h0 h1 with e | ⟨_, e⟩
    ·omega
    ·rw [hh] at e; exact e
   have r1 := (hx.full h0 h1 c0 c1 hkh (hJ h h0 h1 hh hn)).2 i i0 i1 hi
   have r2 := p2 h h0 h1 hh
   omega
theorem meet_stab {f : Fair} {a b : Int → Int} (ha : f.Stab a) (hb : f.Stab b) (hs : f.Share a b) : f.Stab (f.meet a b) := by
 have hcnt : ∀ c : Int, 0 ≤ c → c < f.m → f.cnt (f.meet a b) c = f.cnt a c := fun c c0 c1 => by
  rcases sides_ ha hb hs c0 c1 with ⟨_, h⟩ | ⟨_, h⟩
  ·rw [hs.cnt c c0 c1]; exact cnt_congr h
  ·exact cnt_congr h
 refine Stab.of ⟨meet_rng ha hb, fun c c0 c1 => by rw [hcnt c c0 c1]; exact ha.poss.cnt c c0 c1⟩ fun g c g0 g1 c0 c1 hk hne hl => ?_
 rw [hcnt c c0 c1]
 have hmg : f.meet a b g = a g ∨ f.meet a b g = b g := by
  unfold meet
  split
  ·exact .inl rfl
  ·exact .inr rfl
 rcases sides_ ha hb hs c0 c1 with ⟨hj, hm⟩ | ⟨hj, hm⟩
 ·obtain ⟨p1, p2⟩ := meet_aux hb ha g0 g1 c0 c1 hk (hs.cnt c c0 c1).symm hmg.symm (fun h h0 h1 e1 e2 => by
   have e3 := (hj h h0 h1).2 e1
   unfold join at e3
   split at e3
   ·exact absurd e3 e2
   ·rename_i hnl
    rcases lik_or ha hb h0 h1 (hs.who h h0 h1) (fun e => e2 (e.symm.trans e1)) with h2 | h2
    ·rw [e1] at h2; exact h2
    ·exact absurd h2 hnl) hl
  exact ⟨by rw [hs.cnt c c0 c1]; exact p1, fun i i0 i1 hi => p2 i i0 i1 ((hm i i0 i1).1 hi)⟩
 ·obtain ⟨p1, p2⟩ := meet_aux ha hb g0 g1 c0 c1 hk (hs.cnt c c0 c1) hmg (fun h h0 h1 e1 e2 => by
   have e3 := (hj h h0 h1).2 e1
   unfold join at e3
   split at e3
   ·rename_i hyl
    rw [e1] at hyl; exact hyl
   ·exact absurd e3 e2) hl
  exact ⟨p1, fun i i0 i1 hi => p2 i i0 i1 ((hm i i0 i1).1 hi)⟩
end Fair
end Go.Proofs.Ytlldeifbfpmbaaa
