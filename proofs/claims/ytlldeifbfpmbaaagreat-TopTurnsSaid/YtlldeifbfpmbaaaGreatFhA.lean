import Derived.Test.YtlldeifbfpmbaaaGreatFaA
set_option maxRecDepth 100000
namespace Go.Proofs.YtlldeifbfpmbaaaGreat
open Go.RowKit Go.Proofs
theorem sm_eq {f g : Int → Int} {k : Int} (h : ∀ i : Int, 0 ≤ i → i < k → f i ≤ g i) (e : sm g k ≤ sm f k) {i : Int} (i0 : 0 ≤ i) (i1 : i < k) : f i = g i := by
 have h1 := sm_pos (f := fun i => g i - f i) (k := k) (fun i i0 i1 => by have := h i i0 i1; omega) i i0 i1
 have h2 := sm_sub g f k
 have h3 := h i i0 i1
 omega
theorem sm_one {k x : Int} (x0 : 0 ≤ x) (x1 : x < k) (c : Int) : sm (fun i => if x = i then c else 0) k = c := by
 have e : (fun i => if x = i then c else 0) = upd (fun _ => 0) x c := by
  funext i
  unfold upd
  by_cases h : i = x
  ·rw [if_pos h.symm, if_pos h]
  ·rw [if_neg h, if_neg fun e => h e.symm]
 rw [e, sm_upd _ _ _ x0 x1, sm_const 0 (by omega)]
 omega
theorem sm_none {k x : Int} (h : ∀ i : Int, 0 ≤ i → i < k → x ≠ i) (c : Int) : sm (fun i => if x = i then c else 0) k = 0 := by
 by_cases k0 : 0 ≤ k
 ·rw [sm_congr (g := fun _ => 0) fun i i0 i1 => if_neg (h i i0 i1), sm_const 0 k0]
  omega
 ·exact sm_neg _ (by omega)
namespace Fair
theorem rg_inj {f : Fair} {g a b : Int} (ha : f.rg g a < f.gl g) (e : f.rg g a = f.rg g b) : a = b := by
 have h1 := ge_rg ha
 have h2 := ge_rg (f := f) (g := g) (b := b) (by omega)
 rw [e] at h1
 exact h1.symm.trans h2
theorem be_rb {f : Fair} {b g : Int} (h : f.rb b g < f.bl b) : f.be b (f.rb b g) = g := rk_at h
theorem rb_at {f : Fair} (hf : f.Ok) {b k : Int} (b0 : 0 ≤ b) (b1 : b < f.m) (k0 : 0 ≤ k) (k1 : k < f.bl b) : f.rb b (f.be b k) = k := rk_of (hf.bd b b0 b1) k0 k1 rfl
theorem rb_nonneg (f : Fair) (b g : Int) : 0 ≤ f.rb b g := (rk_rng _ _ _).1
structure AS (f : Fair) (l nb : Int → Int) : Prop where
 nbr : ∀ b : Int, 0 ≤ b → b < f.m → 0 ≤ nb b ∧ nb b ≤ f.bl b
 at_ : ∀ g : Int, 0 ≤ g → g < f.n → l g ≠ -1 → (0 ≤ l g ∧ l g < f.m) ∧ f.know g (l g) ∧ f.rb (l g) g < nb (l g)
 cnt : ∀ b : Int, 0 ≤ b → b < f.m → f.cnt l b ≤ f.q b
 ref : ∀ b : Int, 0 ≤ b → b < f.m → ∀ k : Int, 0 ≤ k → k < nb b → f.know (f.be b k) b → l (f.be b k) = b ∨ (0 ≤ l (f.be b k) ∧ f.rg (f.be b k) (l (f.be b k)) < f.rg (f.be b k) b)
 wor : ∀ s, f.Stab s → ∀ b : Int, 0 ≤ b → b < f.m → ∀ k : Int, 0 ≤ k → k < nb b → l (f.be b k) ≠ b → s (f.be b k) ≠ b
theorem AS.init (f : Fair) (hq : ∀ b : Int, 0 ≤ b → b < f.m → 0 ≤ f.q b) : f.AS (fun _ => -1) (fun _ => 0) :=
 ⟨fun b _ _ => ⟨Int.le_refl _, by omega⟩, fun g _ _ h => absurd rfl h, (DA.init f hq).cnt, fun b _ _ k k0 k1 => by omega, fun s _ b _ _ k k0 k1 => by omega⟩
theorem beat {f : Fair} {l s : Int → Int} (hs : f.Stab s) {g b c : Int} (g0 : 0 ≤ g) (g1 : g < f.n) (c0 : 0 ≤ c) (c1 : c < f.m) (hl : l g = c) (hk : f.know g c) (hc : f.cnt l c ≤ f.q c) (hlt : f.rg g c < f.rg g b)
  (hall : ∀ i : Int, 0 ≤ i → i < f.n → s i = c → f.rb c i < f.rb c g → l i = c) : s g ≠ b := fun e => by
 have hne : s g ≠ c := fun e2 => by rw [← e, e2] at hlt; omega
 have hnb := hs.none g c g0 g1 c0 c1
 have hfull : ¬ (f.cnt s c < f.q c ∨ ∃ i : Int, (0 ≤ i ∧ i < f.n) ∧ s i = c ∧ f.rb c g < f.rb c i) := fun h => hnb ⟨hne, hk, fun ⟨_, h2⟩ => by rw [e] at h2; omega, h⟩
 have := cnt_more (f := f) (l := s) (s := l) (b := c) (w := g) (fun i i0 i1 hi => hall i i0 i1 hi (Classical.byContradiction fun hn => by
  by_cases e2 : f.rb c i = f.rb c g
  ·have := rb_inj hk.2 e2.symm
   rw [← this] at hi
   exact hne hi
  ·exact hfull (.inr ⟨i, ⟨i0, i1⟩, hi, by omega⟩))) g0 g1 hl hne
 exact hfull (.inl (by omega))
theorem AS.all {f : Fair} {l nb : Int → Int} (h : f.AS l nb) {s : Int → Int} (hs : f.Stab s) {b : Int} (b0 : 0 ≤ b) (b1 : b < f.m) {r : Int} (hr : r ≤ nb b) {i : Int} (i0 : 0 ≤ i) (i1 : i < f.n) (hi : s i = b) (hlt : f.rb b i < r) : l i = b := Classical.byContradiction fun hne => by
 have hk : f.know i b := by
  rcases hs.poss.at_ i i0 i1 with e | ⟨_, e⟩
  ·omega
  ·rw [hi] at e; exact e
 have hb := be_rb hk.2
 exact h.wor s hs b b0 b1 (f.rb b i) (rb_nonneg f b i) (by omega) (by rw [hb]; exact hne) (by rw [hb]; exact hi)
section
variable {f : Fair} {l nb : Int → Int} (hf : f.Ok) (h : f.AS l nb) {b : Int} (b0 : 0 ≤ b) (b1 : b < f.m) (hn : nb b < f.bl b)
include hf h b0 b1 hn
theorem AS.fresh : l (f.be b (nb b)) ≠ b := fun e => by
 have hnb := h.nbr b b0 b1
 have hg := hf.br b (nb b) b0 b1 hnb.1 hn
 have := (h.at_ _ hg.1 hg.2 (by omega)).2.2
 rw [e, rb_at hf b0 b1 hnb.1 hn] at this
 omega
theorem AS.skip (hk : ¬ f.know (f.be b (nb b)) b ∨ (0 ≤ l (f.be b (nb b)) ∧ f.rg (f.be b (nb b)) (l (f.be b (nb b))) < f.rg (f.be b (nb b)) b)) : f.AS l (upd nb b (nb b + 1)) := by
 have hnb := h.nbr b b0 b1
 have hg := hf.br b (nb b) b0 b1 hnb.1 hn
 have hge : ∀ c : Int, nb c ≤ upd nb b (nb b + 1) c := fun c => by
  unfold upd; split
  ·rename_i e; rw [e]; omega
  ·exact Int.le_refl _
 refine ⟨fun c c0 c1 => ?_, fun g g0 g1 hl => ?_, h.cnt, fun c c0 c1 k k0 k1 hkn => ?_, fun s hs c c0 c1 k k0 k1 hne => ?_⟩
 ·unfold upd; split
  ·rename_i e; rw [e]; omega
  ·exact h.nbr c c0 c1
 ·obtain ⟨p1, p2, p3⟩ := h.at_ g g0 g1 hl
  exact ⟨p1, p2, Int.lt_of_lt_of_le p3 (hge _)⟩
 ·unfold upd at k1
  split at k1
  ·rename_i e
   subst e
   by_cases e2 : k = nb c
   ·subst e2
    rcases hk with hk | hk
    ·exact absurd hkn hk
    ·exact .inr hk
   ·exact h.ref c c0 c1 k k0 (by omega) hkn
  ·exact h.ref c c0 c1 k k0 k1 hkn
 ·unfold upd at k1
  split at k1
  ·rename_i e
   subst e
   by_cases e2 : k = nb c
   ·subst e2
    rcases hk with hk | ⟨hk1, hk2⟩
    ·intro hsb
     rcases hs.poss.at_ _ hg.1 hg.2 with e | ⟨_, e⟩
     ·omega
     ·rw [hsb] at e; exact hk e
    ·obtain ⟨p1, p2, p3⟩ := h.at_ _ hg.1 hg.2 (by omega)
     exact beat hs hg.1 hg.2 p1.1 p1.2 rfl p2 (h.cnt _ p1.1 p1.2) hk2 fun i i0 i1 hi hlt => h.all hs p1.1 p1.2 (Int.le_of_lt p3) i0 i1 hi hlt
   ·exact h.wor s hs c c0 c1 k k0 (by omega) hne
  ·exact h.wor s hs c c0 c1 k k0 k1 hne
theorem AS.take (hk : f.know (f.be b (nb b)) b) (hw : ¬ (0 ≤ l (f.be b (nb b)) ∧ f.rg (f.be b (nb b)) (l (f.be b (nb b))) < f.rg (f.be b (nb b)) b)) (hc : f.cnt l b < f.q b) : f.AS (upd l (f.be b (nb b)) b) (upd nb b (nb b + 1)) := by
 have hnb := h.nbr b b0 b1
 have hfr := h.fresh hf b0 b1 hn
 have hg := hf.br b (nb b) b0 b1 hnb.1 hn
 have hrb := rb_at hf b0 b1 hnb.1 hn
 obtain ⟨g, hgd⟩ : ∃ g, g = f.be b (nb b) := ⟨_, rfl⟩
 rw [← hgd] at hk hw hfr hg hrb ⊢
 have hge : ∀ c : Int, nb c ≤ upd nb b (nb b + 1) c := fun c => by
  unfold upd; split
  ·rename_i e; rw [e]; omega
  ·exact Int.le_refl _
 have hcb : ∀ c : Int, c ≠ b → f.cnt (upd l g b) c ≤ f.cnt l c := fun c hne => by
  rw [cnt_upd hg.1 hg.2, if_neg (show ¬ b = c from fun e => hne e.symm)]
  split <;> omega
 have hcb2 : f.cnt (upd l g b) b = f.cnt l b + 1 := by
  rw [cnt_upd hg.1 hg.2, if_neg hfr, if_pos rfl]
  omega
 have hbet : l g ≠ -1 → f.rg g b < f.rg g (l g) := fun hne => by
  have hp := (h.at_ g hg.1 hg.2 hne).1.1
  have h1 : ¬ f.rg g (l g) < f.rg g b := fun h2 => hw ⟨hp, h2⟩
  have h2 : f.rg g b ≠ f.rg g (l g) := fun e => hfr (rg_inj hk.1 e).symm
  omega
 refine ⟨fun c c0 c1 => ?_, fun i i0 i1 hl => ?_, fun c c0 c1 => ?_, fun c c0 c1 k k0 k1 hkn => ?_, fun s hs c c0 c1 k k0 k1 hne => ?_⟩
 ·unfold upd; split
  ·rename_i e; rw [e]; omega
  ·exact h.nbr c c0 c1
 ·by_cases e : i = g
  ·rw [e, upd_same, upd_same]
   exact ⟨⟨b0, b1⟩, hk, by omega⟩
  ·rw [upd_ne _ _ e] at hl ⊢
   obtain ⟨p1, p2, p3⟩ := h.at_ i i0 i1 hl
   exact ⟨p1, p2, Int.lt_of_lt_of_le p3 (hge _)⟩
 ·by_cases e : c = b
  ·rw [e, hcb2]; omega
  ·exact Int.le_trans (hcb c e) (h.cnt c c0 c1)
 ·by_cases e : f.be c k = g
  ·rw [e, upd_same]
   by_cases e2 : c = b
   ·exact .inl e2.symm
   ·rw [upd_ne _ _ e2] at k1
    have h1 := h.ref c c0 c1 k k0 k1 hkn
    rw [e] at h1
    right
    refine ⟨b0, ?_⟩
    rcases h1 with h1 | ⟨h1, h2⟩
    ·rw [← h1]; exact hbet (by omega)
    ·have := hbet (by omega); omega
  ·rw [upd_ne _ _ e]
   refine h.ref c c0 c1 k k0 ?_ hkn
   unfold upd at k1
   split at k1
   ·rename_i e2
    subst e2
    by_cases e3 : k = nb c
    ·exact absurd (by rw [e3, hgd]) e
    ·omega
   ·exact k1
 ·by_cases e : f.be c k = g
  ·rw [e, upd_same] at hne
   rw [e]
   have e2 : c ≠ b := fun e2 => hne e2.symm
   rw [upd_ne _ _ e2] at k1
   by_cases e3 : l g = c
   ·have hlt := hbet (by omega)
    rw [e3] at hlt
    refine beat (l := upd l g b) hs hg.1 hg.2 b0 b1 (upd_same _ _ _) hk (by omega) hlt fun i i0 i1 hi hlt2 => ?_
    have hig : i ≠ g := fun e => by rw [e] at hlt2; omega
    rw [upd_ne _ _ hig]
    exact h.all hs b0 b1 (Int.le_refl _) i0 i1 hi (by omega)
   ·have := h.wor s hs c c0 c1 k k0 k1 (by rw [e]; exact e3)
    rw [e] at this
    exact this
  ·rw [upd_ne _ _ e] at hne
   refine h.wor s hs c c0 c1 k k0 ?_ hne
   unfold upd at k1
   split at k1
   ·rename_i e2
    subst e2
    by_cases e3 : k = nb c
    ·exact absurd (by rw [e3, hgd]) e
    ·omega
   ·exact k1
end
theorem AS.stab {f : Fair} {l nb : Int → Int} (h : f.AS l nb) (hend : ∀ b : Int, 0 ≤ b → b < f.m → f.cnt l b = f.q b ∨ nb b = f.bl b) : f.Stab l := by
 refine ⟨⟨fun g g0 g1 => ?_, h.cnt⟩, fun g b g0 g1 b0 b1 ⟨h1, h2, h3, h4⟩ => ?_⟩
 ·by_cases e : l g = -1
  ·exact .inl e
  ·obtain ⟨p1, p2, _⟩ := h.at_ g g0 g1 e
   exact .inr ⟨p1, p2⟩
 ·have hb := be_rb h2.2
  by_cases e : f.rb b g < nb b
  ·have := h.ref b b0 b1 (f.rb b g) (rb_nonneg f b g) e (by rw [hb]; exact h2)
   rw [hb] at this
   rcases this with e2 | e2
   ·exact h1 e2
   ·exact h3 e2
  ·have hn := h.nbr b b0 b1
   have h2b := h2.2
   rcases hend b b0 b1 with e2 | e2
   ·rcases h4 with h4 | ⟨i, ⟨i0, i1⟩, hi, hlt⟩
    ·omega
    ·have := (h.at_ i i0 i1 (by omega)).2.2
     rw [hi] at this
     omega
   ·omega
theorem AS.worst {f : Fair} {l nb : Int → Int} (h : f.AS l nb) {s : Int → Int} (hs : f.Stab s) {g : Int} (g0 : 0 ≤ g) (g1 : g < f.n) (hne : l g ≠ -1) : 0 ≤ s g ∧ f.rg g (s g) ≤ f.rg g (l g) := by
 obtain ⟨p1, p2, p3⟩ := h.at_ g g0 g1 hne
 by_cases e : s g = l g
 ·rw [e]; exact ⟨p1.1, Int.le_refl _⟩
 ·refine Classical.byContradiction fun hn => ?_
  have hfull : ¬ (f.cnt s (l g) < f.q (l g) ∨ ∃ i : Int, (0 ≤ i ∧ i < f.n) ∧ s i = l g ∧ f.rb (l g) g < f.rb (l g) i) := fun hh => hs.none g (l g) g0 g1 p1.1 p1.2 ⟨e, p2, fun ⟨h1, h2⟩ => hn ⟨h1, by omega⟩, hh⟩
  have := cnt_more (f := f) (l := s) (s := l) (b := l g) (w := g) (fun i i0 i1 hi => h.all hs p1.1 p1.2 (r := f.rb (l g) g) (by omega) i0 i1 hi (Classical.byContradiction fun hlt => by
   by_cases e2 : f.rb (l g) i = f.rb (l g) g
   ·have := rb_inj p2.2 e2.symm
    rw [← this] at hi
    exact e hi
   ·exact hfull (.inr ⟨i, ⟨i0, i1⟩, hi, by omega⟩))) g0 g1 rfl e
  have := h.cnt (l g) p1.1 p1.2
  exact hfull (.inl (by omega))
def tot (f : Fair) (l : Int → Int) : Int := sm (fun g => if l g = -1 then 0 else 1) f.n
theorem tot_cnt {f : Fair} {l : Int → Int} (h : ∀ g : Int, 0 ≤ g → g < f.n → l g = -1 ∨ (0 ≤ l g ∧ l g < f.m)) : sm (f.cnt l) f.m = f.tot l := by
 unfold Fair.cnt tot
 rw [sm_swap]
 refine sm_congr fun g g0 g1 => ?_
 rcases h g g0 g1 with e | e
 ·rw [if_pos e, sm_none (fun i i0 i1 => by omega)]
 ·rw [if_neg (by omega), sm_one e.1 e.2]
structure Best (f : Fair) (l : Int → Int) : Prop where
 stab : f.Stab l
 best : ∀ s, f.Stab s → ∀ g : Int, 0 ≤ g → g < f.n → s g ≠ -1 → 0 ≤ l g ∧ f.rg g (l g) ≤ f.rg g (s g)
theorem DA.isBest {f : Fair} {l nx : Int → Int} (hf : f.Ok) (h : f.DA l nx) (hend : ∀ g : Int, 0 ≤ g → g < f.n → l g = -1 → nx g = f.gl g) : f.Best l :=
 ⟨h.stab hf hend, fun _ hs _ g0 g1 hne => h.best hf hend hs g0 g1 hne⟩
structure Share (f : Fair) (l s : Int → Int) : Prop where
 who : ∀ g : Int, 0 ≤ g → g < f.n → (l g = -1 ↔ s g = -1)
 cnt : ∀ b : Int, 0 ≤ b → b < f.m → f.cnt l b = f.cnt s b
 low : ∀ b : Int, 0 ≤ b → b < f.m → f.cnt l b < f.q b → ∀ g : Int, 0 ≤ g → g < f.n → (l g = b ↔ s g = b)
theorem Stab.rng {f : Fair} {l : Int → Int} (h : f.Stab l) (g : Int) (g0 : 0 ≤ g) (g1 : g < f.n) : l g = -1 ∨ (0 ≤ l g ∧ l g < f.m) := (h.poss.at_ g g0 g1).imp id And.left
theorem Best.share {f : Fair} {l s : Int → Int} (h : f.Best l) (hs : f.Stab s) : f.Share l s := by
 have hex : ∀ b : Int, 0 ≤ b → b < f.m → (∃ g : Int, (0 ≤ g ∧ g < f.n) ∧ l g = b ∧ s g ≠ b) → f.q b ≤ f.cnt s b := fun b b0 b1 ⟨g, ⟨g0, g1⟩, hl, hne⟩ => Classical.byContradiction fun hlt => by
  have hk : f.know g b := by
   rcases h.stab.poss.at_ g g0 g1 with e | ⟨_, e⟩
   ·omega
   ·rw [hl] at e; exact e
  refine hs.none g b g0 g1 b0 b1 ⟨hne, hk, fun ⟨h1, h2⟩ => ?_, .inl (by omega)⟩
  have := (h.best s hs g g0 g1 (by omega)).2
  rw [hl] at this
  omega
 have hle : ∀ b : Int, 0 ≤ b → b < f.m → f.cnt l b ≤ f.cnt s b := fun b b0 b1 => by
  by_cases c : ∃ g : Int, (0 ≤ g ∧ g < f.n) ∧ l g = b ∧ s g ≠ b
  ·exact Int.le_trans (h.stab.poss.cnt b b0 b1) (hex b b0 b1 c)
  ·refine sm_le fun g g0 g1 => ?_
   by_cases e : l g = b
   ·rw [if_pos e, if_pos (Classical.byContradiction fun e2 => c ⟨g, ⟨g0, g1⟩, e, e2⟩)]
    exact Int.le_refl _
   ·rw [if_neg e]
    split <;> omega
 have hm : ∀ g : Int, 0 ≤ g → g < f.n → (if s g = -1 then (0 : Int) else 1) ≤ if l g = -1 then 0 else 1 := fun g g0 g1 => by
  by_cases e : s g = -1
  ·rw [if_pos e]; split <;> omega
  ·have := (h.best s hs g g0 g1 e).1
   rw [if_neg e, if_neg (by omega)]
   exact Int.le_refl _
 have t1 := tot_cnt h.stab.rng
 have t2 := tot_cnt hs.rng
 have t3 : sm (f.cnt l) f.m ≤ sm (f.cnt s) f.m := sm_le hle
 have t4 : f.tot s ≤ f.tot l := sm_le hm
 have hcnt : ∀ b : Int, 0 ≤ b → b < f.m → f.cnt l b = f.cnt s b := fun b b0 b1 => sm_eq hle (by omega) b0 b1
 refine ⟨fun g g0 g1 => ?_, hcnt, fun b b0 b1 hlt g g0 g1 => ?_⟩
 ·have := sm_eq hm (by show f.tot l ≤ f.tot s; omega) g0 g1
  by_cases e : s g = -1 <;> by_cases e2 : l g = -1
  ·exact ⟨fun _ => e, fun _ => e2⟩
  ·rw [if_pos e, if_neg e2] at this; omega
  ·rw [if_neg e, if_pos e2] at this; omega
  ·exact ⟨fun e3 => absurd e3 e2, fun e3 => absurd e3 e⟩
 ·have hsub : ∀ g : Int, 0 ≤ g → g < f.n → l g = b → s g = b := fun g g0 g1 hl => Classical.byContradiction fun hne => by
   have := hex b b0 b1 ⟨g, ⟨g0, g1⟩, hl, hne⟩
   have := hcnt b b0 b1
   omega
  refine ⟨hsub g g0 g1, fun hsg => Classical.byContradiction fun hne => ?_⟩
  have := cnt_more (f := f) (l := l) (s := s) (b := b) (w := g) hsub g0 g1 hsg hne
  have := hcnt b b0 b1
  omega
end Fair
end Go.Proofs.YtlldeifbfpmbaaaGreat
set_option maxRecDepth 100000
namespace Go.Proofs.YtlldeifbfpmbaaaGreat
open Go.RowKit Go.Proofs
theorem max_ex (p : Int → Prop) (F : Int → Int) : ∀ n : Nat, (∃ i : Int, (0 ≤ i ∧ i < n) ∧ p i) → ∃ i : Int, (0 ≤ i ∧ i < n) ∧ p i ∧ ∀ j : Int, 0 ≤ j → j < n → p j → F j ≤ F i
 | 0, ⟨i, ⟨h0, h1⟩, _⟩ => absurd h1 (by omega)
 | n + 1, ⟨i, ⟨h0, h1⟩, hp⟩ => by
  by_cases c : ∃ i : Int, (0 ≤ i ∧ i < n) ∧ p i
  ·obtain ⟨w, ⟨w0, w1⟩, wp, wm⟩ := max_ex p F n c
   by_cases d : p n ∧ F w < F n
   ·refine ⟨n, ⟨by omega, by omega⟩, d.1, fun j j0 j1 hj => ?_⟩
    by_cases e : j = n
    ·rw [e]; exact Int.le_refl _
    ·have := wm j j0 (by omega) hj
     omega
   ·refine ⟨w, ⟨w0, by omega⟩, wp, fun j j0 j1 hj => ?_⟩
    by_cases e : j = n
    ·rw [e] at hj ⊢
     exact Classical.byContradiction fun h => d ⟨hj, by omega⟩
    ·exact wm j j0 (by omega) hj
  ·have e : i = n := Classical.byContradiction fun e => c ⟨i, ⟨h0, by omega⟩, hp⟩
   rw [e] at hp
   refine ⟨n, ⟨by omega, by omega⟩, hp, fun j j0 j1 hj => ?_⟩
   have e : j = n := Classical.byContradiction fun e => c ⟨j, ⟨j0, by omega⟩, hj⟩
   rw [e]
   exact Int.le_refl _
namespace Fair
theorem DA.exists {f : Fair} (hf : f.Ok) : ∀ (t : Nat) {l nx : Int → Int}, f.DA l nx → sm (fun g => f.gl g - nx g) f.n = t → ∃ l' nx', f.DA l' nx' ∧ ∀ g : Int, 0 ≤ g → g < f.n → l' g = -1 → nx' g = f.gl g := by
 intro t
 induction t with
 | zero =>
  intro l nx h ht
  refine ⟨l, nx, h, fun g g0 g1 _ => ?_⟩
  have := sm_pos (f := fun g => (f.gl g : Int) - nx g) (k := f.n) (fun i i0 i1 => by have := h.nxr i i0 i1; omega) g g0 g1
  have := h.nxr g g0 g1
  omega
 | succ t ih =>
  intro l nx h ht
  by_cases c : ∃ g : Int, (0 ≤ g ∧ g < f.n) ∧ l g = -1 ∧ nx g < f.gl g
  ·obtain ⟨g, ⟨g0, g1⟩, hl, hn⟩ := c
   have hm : sm (fun i => f.gl i - upd nx g (nx g + 1) i) f.n = t := by
    have e : (fun i => (f.gl i : Int) - upd nx g (nx g + 1) i) = upd (fun i => f.gl i - nx i) g (f.gl g - nx g - 1) := by
     funext i
     unfold upd
     by_cases c : i = g
     ·rw [if_pos c, if_pos c, c]; omega
     ·rw [if_neg c, if_neg c]
    rw [e, sm_upd _ _ _ g0 g1]
    omega
   by_cases hk : f.know g (f.ge g (nx g))
   ·by_cases hq : f.q (f.ge g (nx g)) ≤ f.cnt l (f.ge g (nx g))
    ·obtain ⟨w, ⟨w0, w1⟩, hw, hmax⟩ := max_ex (fun i => upd l g (f.ge g (nx g)) i = f.ge g (nx g)) (f.rb (f.ge g (nx g))) f.n ⟨g, ⟨g0, g1⟩, upd_same _ _ _⟩
     exact ih (h.swap hf g0 g1 hl hn hk hq w0 w1 hw hmax) hm
    ·exact ih (h.take hf g0 g1 hl hn hk (by omega)) hm
   ·exact ih (h.skip hf g0 g1 hl hn (.inl hk)) hm
  ·refine ⟨l, nx, h, fun g g0 g1 hl => Classical.byContradiction fun hne => c ⟨g, ⟨g0, g1⟩, hl, ?_⟩⟩
   have := h.nxr g g0 g1
   omega
theorem Best.exists {f : Fair} (hf : f.Ok) : ∃ l, f.Best l := by
 have h := DA.init f hf.q0
 obtain ⟨l, nx, h1, h2⟩ := DA.exists hf (sm (fun g => f.gl g - 0) f.n).toNat h (by
  have : 0 ≤ sm (fun g => (f.gl g : Int) - 0) f.n := sm_nonneg fun i _ _ => by omega
  omega)
 exact ⟨l, h1.isBest hf h2⟩
theorem Stab.congr {f : Fair} {l s : Int → Int} (h : f.Stab l) (e : ∀ g : Int, 0 ≤ g → g < f.n → l g = s g) : f.Stab s := by
 have hc : ∀ b, f.cnt s b = f.cnt l b := fun b => cnt_congr fun i i0 i1 => by rw [e i i0 i1]
 refine ⟨⟨fun g g0 g1 => by rw [← e g g0 g1]; exact h.poss.at_ g g0 g1, fun b b0 b1 => by rw [hc]; exact h.poss.cnt b b0 b1⟩, fun g b g0 g1 b0 b1 ⟨h1, h2, h3, h4⟩ => h.none g b g0 g1 b0 b1 ?_⟩
 rw [← e g g0 g1] at h1 h3
 refine ⟨h1, h2, h3, ?_⟩
 rw [hc] at h4
 rcases h4 with h4 | ⟨i, ⟨i0, i1⟩, hi, hlt⟩
 ·exact .inl h4
 ·exact .inr ⟨i, ⟨i0, i1⟩, by rw [e i i0 i1]; exact hi, hlt⟩
def lik (f : Fair) (g a b : Int) : Prop := 0 ≤ a ∧ (b < 0 ∨ f.rg g a < f.rg g b)
instance (f : Fair) (g a b : Int) : Decidable (f.lik g a b) := by unfold lik; exact inferInstance
end Fair
end Go.Proofs.YtlldeifbfpmbaaaGreat
set_option maxRecDepth 100000
namespace Go.Proofs.YtlldeifbfpmbaaaGreat
open Go.RowKit Go.Proofs
def val (M : Nat) (l : Int → Int) : Nat → Nat
 | 0 => 0
 | i + 1 => val M l i * (M + 1) + (l i + 1).toNat
theorem val_congr {M : Nat} {l s : Int → Int} : ∀ {n : Nat}, (∀ i : Int, 0 ≤ i → i < n → l i = s i) → val M l n = val M s n
 | 0, _ => rfl
 | n + 1, h => by
  show val M l n * (M + 1) + (l n + 1).toNat = val M s n * (M + 1) + (s n + 1).toNat
  rw [val_congr (n := n) fun i i0 i1 => h i i0 (by omega), h n (by omega) (by omega)]
def Dig (M n : Nat) (l : Int → Int) : Prop := ∀ i : Int, 0 ≤ i → i < n → -1 ≤ l i ∧ l i < M
theorem Dig.pred {M n : Nat} {l : Int → Int} (h : Dig M (n + 1) l) : Dig M n l := fun i i0 i1 => h i i0 (by omega)
theorem val_pow {M K : Nat} (hK : M + 1 ≤ K) {l : Int → Int} : ∀ {n : Nat}, Dig M n l → val M l n < K ^ n
 | 0, _ => by show 0 < 1; decide
 | n + 1, h => by
  have ih := val_pow hK (n := n) h.pred
  have h1 := h n (by omega) (by omega)
  show val M l n * (M + 1) + (l n + 1).toNat < K ^ n * K
  have h2 := Nat.mul_le_mul_left (val M l n) hK
  have h3 := Nat.mul_le_mul_right K (show val M l n + 1 ≤ K ^ n from ih)
  rw [Nat.succ_mul] at h3
  omega
theorem val_inj {M : Nat} {l s : Int → Int} : ∀ {n : Nat}, Dig M n l → Dig M n s → val M l n = val M s n → ∀ i : Int, 0 ≤ i → i < n → l i = s i
 | 0, _, _, _ => fun i i0 i1 => by omega
 | n + 1, hl, hs, e => fun i i0 i1 => by
  have h1 := hl n (by omega) (by omega)
  have h2 := hs n (by omega) (by omega)
  have e' : val M l n * (M + 1) + (l n + 1).toNat = val M s n * (M + 1) + (s n + 1).toNat := e
  have hv : val M l n = val M s n := by
   rcases Nat.lt_trichotomy (val M l n) (val M s n) with h | h | h
   ·have := Nat.mul_le_mul_right (M + 1) (show val M l n + 1 ≤ val M s n from h)
    rw [Nat.succ_mul] at this
    omega
   ·exact h
   ·have := Nat.mul_le_mul_right (M + 1) (show val M s n + 1 ≤ val M l n from h)
    rw [Nat.succ_mul] at this
    omega
  by_cases c : i = n
  ·rw [hv] at e'
   rw [c]
   omega
  ·exact val_inj hl.pred hs.pred hv i i0 (by omega)
namespace Fair
theorem Stab.dig {f : Fair} {s : Int → Int} (h : f.Stab s) : Dig f.m f.n s := fun i i0 i1 => by
 have := h.rng i i0 i1
 omega
structure AllTo (f : Fair) (N : Nat) (A : Nat → Int → Int) (k : Nat) : Prop where
 st : ∀ j : Nat, j < N → f.Stab (A j)
 inc : ∀ i j : Nat, i < j → j < N → val f.m (A i) f.n < val f.m (A j) f.n
 lt : ∀ j : Nat, j < N → val f.m (A j) f.n < k
 all : ∀ s, f.Stab s → val f.m s f.n < k → ∃ j : Nat, j < N ∧ ∀ g : Int, 0 ≤ g → g < f.n → A j g = s g
 len : N ≤ k
theorem AllTo.init (f : Fair) (A : Nat → Int → Int) : f.AllTo 0 A 0 := ⟨fun j h => by omega, fun i j h h' => by omega, fun j h => by omega, fun s _ h => by omega, Nat.le_refl _⟩
theorem AllTo.skip {f : Fair} {N : Nat} {A : Nat → Int → Int} {l : Int → Int} (h : f.AllTo N A (val f.m l f.n)) (hl : Dig f.m f.n l) (hn : ¬ f.Stab l) (hcg : ∀ s, f.Stab s → (∀ g : Int, 0 ≤ g → g < f.n → l g = s g) → f.Stab l) : f.AllTo N A (val f.m l f.n + 1) :=
 ⟨h.st, h.inc, fun j hj => by have := h.lt j hj; omega, fun s hs hv => by
  by_cases c : val f.m s f.n = val f.m l f.n
  ·exact absurd (hcg s hs (val_inj hl hs.dig c.symm)) hn
  ·exact h.all s hs (by omega), by have := h.len; omega⟩
theorem AllTo.take {f : Fair} {N : Nat} {A A' : Nat → Int → Int} {l : Int → Int} (h : f.AllTo N A (val f.m l f.n)) (hl : f.Stab l) (ho : ∀ j : Nat, j < N → A' j = A j) (hN : A' N = l) : f.AllTo (N + 1) A' (val f.m l f.n + 1) := by
 have hA : ∀ j : Nat, j < N + 1 → (j < N ∧ A' j = A j) ∨ (j = N ∧ A' j = l) := fun j hj => by
  by_cases c : j = N
  ·exact .inr ⟨c, by rw [c]; exact hN⟩
  ·exact .inl ⟨by omega, ho j (by omega)⟩
 refine ⟨fun j hj => ?_, fun i j hi hj => ?_, fun j hj => ?_, fun s hs hv => ?_, by have := h.len; omega⟩
 ·rcases hA j hj with ⟨c, e⟩ | ⟨c, e⟩
  ·rw [e]; exact h.st j c
  ·rw [e]; exact hl
 ·rcases hA i (by omega) with ⟨c, e⟩ | ⟨c, e⟩
  ·rcases hA j hj with ⟨c', e'⟩ | ⟨c', e'⟩
   ·rw [e, e']; exact h.inc i j hi c'
   ·rw [e, e']; exact h.lt i c
  ·omega
 ·rcases hA j hj with ⟨c, e⟩ | ⟨c, e⟩
  ·rw [e]; have := h.lt j c; omega
  ·rw [e]; omega
 ·by_cases c : val f.m s f.n = val f.m l f.n
  ·exact ⟨N, by omega, fun g g0 g1 => by rw [hN]; exact val_inj hl.dig hs.dig c.symm g g0 g1⟩
  ·obtain ⟨j, hj, e⟩ := h.all s hs (by omega)
   exact ⟨j, by omega, fun g g0 g1 => by rw [ho j hj]; exact e g g0 g1⟩
structure AllS (f : Fair) (N : Nat) (A : Nat → Int → Int) : Prop where
 st : ∀ j : Nat, j < N → f.Stab (A j)
 inc : ∀ i j : Nat, i < j → j < N → val f.m (A i) f.n < val f.m (A j) f.n
 all : ∀ s, f.Stab s → ∃ j : Nat, j < N ∧ ∀ g : Int, 0 ≤ g → g < f.n → A j g = s g
end Fair
end Go.Proofs.YtlldeifbfpmbaaaGreat
