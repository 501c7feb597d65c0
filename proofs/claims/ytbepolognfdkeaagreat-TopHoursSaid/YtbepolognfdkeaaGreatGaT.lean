import Derived.Test.YtbepolognfdkeaaGreatGaN
set_option maxRecDepth 100000
namespace Go.Proofs.YtbepolognfdkeaaGreat
def lex (f : Int → Int) (a b : Int) : Prop := f a < f b ∨ (f a = f b ∧ a < b)
theorem lex_irr {f : Int → Int} {a : Int} (h1 : lex f a a) : False := by unfold lex at *; omega
def SameV (N : Nat) (g Y : Int → Int) : Prop := ∀ v : Int, (∃ a : Int, (0 ≤ a ∧ a < N) ∧ g a = v) ↔ ∃ a : Int, (0 ≤ a ∧ a < N) ∧ Y a = v
structure SrtS (f Y : Int → Int) (N : Nat) (g : Int → Int) (i : Int) : Prop where
 same : SameV N g Y
 low : ∀ a b : Int, 0 ≤ a → a < i → i ≤ b → b < N → g a < g b
 rest : ∀ a : Int, i ≤ a → a < N → g a = Y a
 srt : ∀ a b : Int, 0 ≤ a → a < b → b < i → lex f (g a) (g b)
structure InsS (f Y : Int → Int) (N : Nat) (g : Int → Int) (i j : Int) : Prop where
 rng : 0 ≤ j ∧ j ≤ i ∧ i < N
 same : SameV N g Y
 low : ∀ a b : Int, 0 ≤ a → a ≤ i → i < b → b < N → g a < g b
 rest : ∀ a : Int, i < a → a < N → g a = Y a
 vlt : ∀ a : Int, 0 ≤ a → a ≤ i → a ≠ j → g a < g j
 srt : ∀ a b : Int, 0 ≤ a → a < b → b ≤ i → a ≠ j → b ≠ j → lex f (g a) (g b)
 right : ∀ b : Int, j < b → b ≤ i → f (g j) < f (g b)
section
variable {f Y g : Int → Int} {N : Nat} {i j : Int}
theorem SrtS.init (hg : ∀ a : Int, 0 ≤ a → a < N → g a = Y a) (hY : ∀ a b : Int, 0 ≤ a → a < b → b < N → Y a < Y b) : SrtS f Y N g 1 := by
 refine ⟨fun v => ⟨fun ⟨a, ha, e⟩ => ⟨a, ha, by rw [← hg a ha.1 ha.2]; exact e⟩, fun ⟨a, ha, e⟩ => ⟨a, ha, by rw [hg a ha.1 ha.2]; exact e⟩⟩, fun a b a0 a1 b0 b1 => ?_, fun a a0 a1 => hg a (by omega) a1, fun a b a0 ab b1 => by omega⟩
 rw [hg a a0 (by omega), hg b (by omega) b1]
 exact hY a b a0 (by omega) b1
theorem SrtS.ins (h : SrtS f Y N g i) (hY : ∀ a b : Int, 0 ≤ a → a < b → b < N → Y a < Y b) (i0 : 0 ≤ i) (i1 : i < N) : InsS f Y N g i i := by
 refine ⟨by omega, h.same, fun a b a0 a1 b0 b1 => ?_, fun a a0 a1 => h.rest a (by omega) a1, fun a a0 a1 hne => h.low a i a0 (by omega) (Int.le_refl _) i1, fun a b a0 ab b1 h1 h2 => h.srt a b a0 ab (by omega), fun b h1 h2 => by omega⟩
 by_cases c : a = i
 ·rw [h.rest a (by omega) (by omega), h.rest b (by omega) b1]; exact hY a b a0 (by omega) b1
 ·exact h.low a b a0 (by omega) (by omega) b1
theorem InsS.done (h : InsS f Y N g i j) (hd : ¬ (0 < j ∧ f (g j) < f (g (j - 1)))) : SrtS f Y N g (i + 1) := by
 have hr := h.rng
 refine ⟨h.same, fun a b a0 a1 b0 b1 => h.low a b a0 (by omega) (by omega) b1, fun a a0 a1 => h.rest a (by omega) a1, fun a b a0 ab b1 => ?_⟩
 by_cases ca : a = j
 ·rw [ca] at ab ⊢
  exact .inl (h.right b ab (by omega))
 ·by_cases cb : b = j
  ·rw [cb] at ab ⊢
   have hv := h.vlt a a0 (by omega) ca
   have hk : f (g (j - 1)) ≤ f (g j) := by omega
   by_cases c1 : a = j - 1
   ·rw [c1] at hv ⊢
    unfold lex; omega
   ·have hs := h.srt a (j - 1) a0 (by omega) (by omega) ca (by omega)
    unfold lex at hs ⊢; omega
  ·exact h.srt a b a0 ab (by omega) ca cb
theorem InsS.step (h : InsS f Y N g i j) (hj : 0 < j) (hd : f (g j) < f (g (j - 1))) : InsS f Y N (upd (upd g j (g (j - 1))) (j - 1) (g j)) i (j - 1) := by
 have hr := h.rng
 obtain ⟨q, hq⟩ : ∃ q, q = upd (upd g j (g (j - 1))) (j - 1) (g j) := ⟨_, rfl⟩
 have e1 : q (j - 1) = g j := by rw [hq, upd_same]
 have e2 : q j = g (j - 1) := by rw [hq, upd_ne _ _ (by omega), upd_same]
 have e3 : ∀ a : Int, a ≠ j → a ≠ j - 1 → q a = g a := fun a h1 h2 => by rw [hq, upd_ne _ _ h2, upd_ne _ _ h1]
 rw [← hq]
 refine ⟨by omega, fun v => ?_, fun a b a0 a1 b0 b1 => ?_, fun a a0 a1 => by rw [e3 a (by omega) (by omega)]; exact h.rest a a0 a1, fun a a0 a1 hne => ?_, fun a b a0 ab b1 h1 h2 => ?_, fun b h1 h2 => ?_⟩
 ·rw [← h.same v]
  constructor
  ·rintro ⟨a, ha, e⟩
   by_cases c1 : a = j
   ·exact ⟨j - 1, by omega, by rw [← e2, ← c1, e]⟩
   ·by_cases c2 : a = j - 1
    ·exact ⟨j, by omega, by rw [← e1, ← c2, e]⟩
    ·exact ⟨a, ha, by rw [← e3 a c1 c2, e]⟩
  ·rintro ⟨a, ha, e⟩
   by_cases c1 : a = j
   ·exact ⟨j - 1, by omega, by rw [e1, ← c1, e]⟩
   ·by_cases c2 : a = j - 1
    ·exact ⟨j, by omega, by rw [e2, ← c2, e]⟩
    ·exact ⟨a, ha, by rw [e3 a c1 c2, e]⟩
 ·rw [e3 b (by omega) (by omega)]
  by_cases c1 : a = j
  ·rw [c1, e2]; exact h.low (j - 1) b (by omega) (by omega) b0 b1
  ·by_cases c2 : a = j - 1
   ·rw [c2, e1]; exact h.low j b (by omega) (by omega) b0 b1
   ·rw [e3 a c1 c2]; exact h.low a b a0 a1 b0 b1
 ·rw [e1]
  by_cases c1 : a = j
  ·rw [c1, e2]; exact h.vlt (j - 1) (by omega) (by omega) (by omega)
  ·rw [e3 a c1 hne]; exact h.vlt a a0 a1 c1
 ·by_cases c1 : a = j
  ·rw [c1, e2, e3 b (by omega) h2]
   exact h.srt (j - 1) b (by omega) (by omega) b1 (by omega) (by omega)
  ·by_cases c2 : b = j
   ·rw [c2, e2, e3 a c1 h1]
    exact h.srt a (j - 1) a0 (by omega) (by omega) c1 (by omega)
   ·rw [e3 a c1 h1, e3 b c2 h2]
    exact h.srt a b a0 ab b1 c1 c2
 ·rw [e1]
  by_cases c1 : b = j
  ·rw [c1, e2]; exact hd
  ·rw [e3 b c1 (by omega)]; exact h.right b (by omega) h2
end
end Go.Proofs.YtbepolognfdkeaaGreat
set_option maxRecDepth 100000
namespace Go.Proofs.YtbepolognfdkeaaGreat
noncomputable def cntE (l : Lds) (S : Int → Prop) (out : Int → Int) (s : Int) : Int := sm (fun j => ind (S j ∧ out j = s)) l.n
def CanM (l : Lds) (k : Int) (S : Int → Prop) : Prop := ∃ h : Int → Int, (∀ i : Int, 0 ≤ i → i < l.n → S i → l.r i ≤ h i ∧ h i < l.d i) ∧ ∀ t : Int, cntE l S h t ≤ k
structure Ed (l : Lds) (k : Int) (S : Int → Prop) (t : Int) (out : Int → Int) : Prop where
 rng : ∀ i : Int, 0 ≤ i → i < l.n → S i → out i = -1 ∨ (l.r i ≤ out i ∧ out i < l.d i ∧ out i < t)
 non : ∀ i : Int, 0 ≤ i → i < l.n → ¬ S i → out i = -1
 cap : ∀ s : Int, 0 ≤ s → cntE l S out s ≤ k
 full : ∀ i s : Int, 0 ≤ i → i < l.n → S i → 0 ≤ s → l.r i ≤ s → s < t → (out i = -1 ∨ s < out i) → cntE l S out s = k ∧ ∀ j : Int, 0 ≤ j → j < l.n → S j → out j = s → lex l.d j i
structure EdI (l : Lds) (k : Int) (S : Int → Prop) (t m : Int) (out : Int → Int) : Prop where
 rng : ∀ i : Int, 0 ≤ i → i < l.n → S i → out i = -1 ∨ (l.r i ≤ out i ∧ out i < l.d i ∧ out i ≤ t)
 non : ∀ i : Int, 0 ≤ i → i < l.n → ¬ S i → out i = -1
 cap : ∀ s : Int, 0 ≤ s → s ≠ t → cntE l S out s ≤ k
 cnt : cntE l S out t = m ∧ m ≤ k
 full : ∀ i s : Int, 0 ≤ i → i < l.n → S i → 0 ≤ s → l.r i ≤ s → s < t → (out i = -1 ∨ s < out i) → cntE l S out s = k ∧ ∀ j : Int, 0 ≤ j → j < l.n → S j → out j = s → lex l.d j i
 now : ∀ i : Int, 0 ≤ i → i < l.n → S i → l.r i ≤ t → out i = -1 → ∀ j : Int, 0 ≤ j → j < l.n → S j → out j = t → lex l.d j i
structure EdF (l : Lds) (k : Int) (S : Int → Prop) (out : Int → Int) : Prop where
 rng : ∀ i : Int, 0 ≤ i → i < l.n → S i → l.r i ≤ out i ∧ out i < l.d i
 non : ∀ i : Int, 0 ≤ i → i < l.n → ¬ S i → out i = -1
 cap : ∀ s : Int, 0 ≤ s → cntE l S out s ≤ k
 full : ∀ i s : Int, 0 ≤ i → i < l.n → S i → 0 ≤ s → l.r i ≤ s → s < out i → cntE l S out s = k ∧ ∀ j : Int, 0 ≤ j → j < l.n → S j → out j = s → lex l.d j i
section
variable {l : Lds} {k t m : Int} {S : Int → Prop} {out : Int → Int}
theorem Ed.init (hk : 0 ≤ k) : Ed l k S 0 (fun _ => -1) := by
 have hc : ∀ s : Int, 0 ≤ s → cntE l S (fun _ => -1) s = 0 := fun s s0 => sm_zeroG fun i _ _ => ind_f fun h => by
  have : (-1 : Int) = s := h.2
  omega
 exact ⟨fun i _ _ _ => .inl rfl, fun i _ _ _ => rfl, fun s s0 => by rw [hc s s0]; exact hk, fun i s i0 i1 _ s0 h1 h2 _ => by omega⟩
theorem Ed.start (h : Ed l k S t out) (t0 : 0 ≤ t) (hk : 0 ≤ k) : EdI l k S t 0 out := by
 have hno : ∀ j : Int, 0 ≤ j → j < l.n → S j → out j = t → False := fun j j0 j1 hS e => by
  rcases h.rng j j0 j1 hS with a | a <;> omega
 refine ⟨fun i i0 i1 hS => (h.rng i i0 i1 hS).imp id fun a => by omega, h.non, fun s s0 _ => h.cap s s0, ⟨?_, hk⟩, h.full, fun i i0 i1 hS hr ho j j0 j1 hSj e => (hno j j0 j1 hSj e).elim⟩
 exact sm_zeroG fun i i0 i1 => ind_f fun e => hno i i0 i1 e.1 e.2
theorem Ed.skip (h : Ed l k S t out) {u : Int} (htu : t ≤ u) (hw : ∀ i : Int, 0 ≤ i → i < l.n → S i → out i = -1 → u ≤ l.r i) : Ed l k S u out := by
 refine ⟨fun i i0 i1 hS => (h.rng i i0 i1 hS).imp id fun a => by omega, h.non, h.cap, fun i s i0 i1 hS s0 hr hs ho => ?_⟩
 by_cases c : s < t
 ·exact h.full i s i0 i1 hS s0 hr c ho
 ·rcases ho with a | a
  ·have := hw i i0 i1 hS a; omega
  ·rcases h.rng i i0 i1 hS with b | b <;> omega
theorem cntE_upd {b s : Int} (b0 : 0 ≤ b) (b1 : b < l.n) (hS : S b) (ho : out b ≠ s) (hne : t ≠ s) : cntE l S (upd out b t) s = cntE l S out s := sm_congr fun i _ _ => ind_congr (by
  by_cases c : i = b
  ·rw [c, upd_same]; exact ⟨fun e => absurd e.2 hne, fun e => absurd e.2 ho⟩
  ·rw [upd_ne _ _ c])
theorem cntE_inc {b : Int} (b0 : 0 ≤ b) (b1 : b < l.n) (hS : S b) (ho : out b ≠ t) : cntE l S (upd out b t) t = cntE l S out t + 1 := by
 unfold cntE
 have e : (fun j => ind (S j ∧ upd out b t j = t)) = upd (fun j => ind (S j ∧ out j = t)) b 1 := by
  funext j
  by_cases c : j = b
  ·rw [c, upd_same, upd_same, ind_t ⟨hS, rfl⟩]
  ·rw [upd_ne _ _ c, upd_ne _ _ c]
 rw [e, sm_upd _ b 1 b0 b1, ind_f fun h => ho h.2]; omega
theorem EdI.pick (h : EdI l k S t m out) {b : Int} (b0 : 0 ≤ b) (b1 : b < l.n) (hS : S b) (hb : out b = -1) (t0 : 0 ≤ t) (hr : l.r b ≤ t) (hd : t < l.d b) (hm : m < k) (hl : ∀ i : Int, 0 ≤ i → i < l.n → S i → out i = -1 → l.r i ≤ t → i ≠ b → lex l.d b i) : EdI l k S t (m + 1) (upd out b t) := by
 refine ⟨fun i i0 i1 hSi => ?_, fun i i0 i1 hSi => ?_, fun s s0 hst => ?_, ⟨?_, by omega⟩, fun i s i0 i1 hSi s0 hri hs ho => ?_, fun i i0 i1 hSi hri ho j j0 j1 hSj e => ?_⟩
 ·by_cases c : i = b
  ·rw [c, upd_same]; exact .inr ⟨hr, hd, Int.le_refl _⟩
  ·rw [upd_ne _ _ c]; exact h.rng i i0 i1 hSi
 ·rw [upd_ne _ _ fun e : i = b => hSi (by rw [e]; exact hS)]; exact h.non i i0 i1 hSi
 ·rw [cntE_upd b0 b1 hS (by omega) fun e => hst e.symm]; exact h.cap s s0 hst
 ·rw [cntE_inc b0 b1 hS (by omega), h.cnt.1]
 ·have ho' : out i = -1 ∨ s < out i := by
   by_cases c : i = b
   ·rw [c]; exact .inl hb
   ·rw [upd_ne _ _ c] at ho; exact ho
  obtain ⟨g1, g2⟩ := h.full i s i0 i1 hSi s0 hri hs ho'
  rw [cntE_upd b0 b1 hS (by omega) (by omega)]
  refine ⟨g1, fun j j0 j1 hSj e => ?_⟩
  by_cases c : j = b
  ·rw [c, upd_same] at e; omega
  ·rw [upd_ne _ _ c] at e; exact g2 j j0 j1 hSj e
 ·by_cases c : i = b
  ·rw [c, upd_same] at ho; omega
  ·rw [upd_ne _ _ c] at ho
   by_cases c2 : j = b
   ·rw [c2]; exact hl i i0 i1 hSi ho hri c
   ·rw [upd_ne _ _ c2] at e; exact h.now i i0 i1 hSi hri ho j j0 j1 hSj e
theorem EdI.finish (h : EdI l k S t m out) (hd : m = k ∨ ∀ i : Int, 0 ≤ i → i < l.n → S i → out i = -1 → l.r i ≤ t → False) : Ed l k S (t + 1) out := by
 refine ⟨fun i i0 i1 hS => (h.rng i i0 i1 hS).imp id fun a => by omega, h.non, fun s s0 => ?_, fun i s i0 i1 hS s0 hr hs ho => ?_⟩
 ·by_cases c : s = t
  ·rw [c, h.cnt.1]; exact h.cnt.2
  ·exact h.cap s s0 c
 ·by_cases c : s = t
  ·rw [c] at hr ho ⊢
   have ho2 : out i = -1 := by
    rcases ho with a | a
    ·exact a
    ·rcases h.rng i i0 i1 hS with b | b <;> omega
   rcases hd with a | a
   ·exact ⟨by rw [h.cnt.1, a], h.now i i0 i1 hS hr ho2⟩
   ·exact (a i i0 i1 hS ho2 hr).elim
  ·exact h.full i s i0 i1 hS s0 hr (by omega) ho
theorem Ed.final (h : Ed l k S t out) (hV : l.Valid) (ha : ∀ i : Int, 0 ≤ i → i < l.n → S i → out i ≠ -1) : EdF l k S out :=
 ⟨fun i i0 i1 hS => by rcases h.rng i i0 i1 hS with a | a; exact absurd a (ha i i0 i1 hS); exact ⟨a.1, a.2.1⟩, h.non, h.cap, fun i s i0 i1 hS s0 hr hs => h.full i s i0 i1 hS s0 hr (by rcases h.rng i i0 i1 hS with a | a; exact absurd a (ha i i0 i1 hS); omega) (.inr hs)⟩
theorem EdF.can (h : EdF l k S out) (hV : l.Valid) (hk : 0 ≤ k) : CanM l k S := by
 refine ⟨out, h.rng, fun t => ?_⟩
 by_cases c : 0 ≤ t
 ·exact h.cap t c
 ·rw [show cntE l S out t = 0 from sm_zeroG fun i i0 i1 => ind_f fun e => by
   have h1 := h.rng i i0 i1 e.1
   have h2 := (hV i i0 i1).1
   omega]
  exact hk
end
end Go.Proofs.YtbepolognfdkeaaGreat
set_option maxRecDepth 100000
namespace Go.Proofs.YtbepolognfdkeaaGreat
section
variable {l : Lds} {k t m : Int} {S : Int → Prop} {out : Int → Int}
theorem EdI.late (h : EdI l k S t m out) (hV : l.Valid) {b : Int} (b0 : 0 ≤ b) (b1 : b < l.n) (hS : S b) (hb : out b = -1) (hd : l.d b ≤ t) : ¬ CanM l k S := by
 rintro ⟨g, hg, hc⟩
 have hvb := hV b b0 b1
 unfold Lds.Val at hvb
 let P : Int → Prop := fun u => ∀ s : Int, u ≤ s → s < l.d b → cntE l S out s = k ∧ ∀ j : Int, 0 ≤ j → j < l.n → S j → out j = s → l.d j ≤ l.d b
 have hP0 : P (l.r b) := fun s s0 s1 => by
  obtain ⟨a1, a2⟩ := h.full b s b0 b1 hS (by omega) s0 (by omega) (.inl hb)
  exact ⟨a1, fun j j0 j1 hSj e => by have := a2 j j0 j1 hSj e; unfold lex at this; omega⟩
 have hex : ∀ n : Nat, P n → ∃ u : Int, 0 ≤ u ∧ u ≤ n ∧ P u ∧ (u = 0 ∨ ¬ P (u - 1)) := by
  intro n
  induction n with
  | zero => intro hp; exact ⟨0, Int.le_refl 0, by omega, hp, .inl rfl⟩
  | succ n ih =>
   intro hp
   by_cases c : P n
   ·obtain ⟨u, u0, u1, u2, u3⟩ := ih c
    exact ⟨u, u0, by omega, u2, u3⟩
   ·exact ⟨((n + 1 : Nat) : Int), by omega, Int.le_refl _, hp, .inr (by rw [show ((n + 1 : Nat) : Int) - 1 = n by omega]; exact c)⟩
 obtain ⟨u, u0, u1, hPu, hun⟩ := hex (l.r b).toNat (by rw [Int.toNat_of_nonneg hvb.1]; exact hP0)
 have hQr : ∀ j : Int, 0 ≤ j → j < l.n → S j → l.d j ≤ l.d b → (out j = -1 ∨ u ≤ out j) → u ≤ l.r j := fun j j0 j1 hSj hdj hoj => by
  refine Classical.byContradiction fun hn => ?_
  have hrj := (hV j j0 j1).1
  have hu0 : u ≠ 0 := by omega
  refine hun.resolve_left hu0 fun s s0 s1 => ?_
  by_cases c : s = u - 1
  ·obtain ⟨a1, a2⟩ := h.full j s j0 j1 hSj (by omega) (by omega) (by omega) (hoj.imp id fun a => by omega)
   exact ⟨a1, fun q q0 q1 hSq e => by have := a2 q q0 q1 hSq e; unfold lex at this; omega⟩
  ·exact hPu s (by omega) s1
 obtain ⟨W, hW⟩ : ∃ W, W = l.d b - u := ⟨_, rfl⟩
 have hW0 : 0 ≤ W := by omega
 have h1 : sm (fun s => cntE l S g (u + s)) W ≤ W * k := sm_bound k hW0 fun s _ _ => hc _
 have h2 : sm (fun s => cntE l S out (u + s)) W = W * k := by
  rw [sm_congr (g := fun _ => k) fun s s0 s1 => (hPu (u + s) (by omega) (by omega)).1, sm_const _ hW0]
 have e1 : ∀ f : Int → Int, sm (fun s => cntE l S f (u + s)) W = sm (fun j => ind (S j ∧ u ≤ f j ∧ f j < l.d b)) l.n := fun f => by
  unfold cntE
  rw [sm_swap]
  refine sm_congr fun j _ _ => ?_
  by_cases c : S j ∧ u ≤ f j ∧ f j < l.d b
  ·rw [ind_t c, sm_one1 (a := f j - u) (by omega) (by omega) fun s _ _ hne => ind_f fun e => hne (by omega), ind_t ⟨c.1, by omega⟩]
  ·rw [ind_f c]
   exact sm_zeroG fun s s0 s1 => ind_f fun e => c ⟨e.1, by omega, by omega⟩
 rw [e1] at h1 h2
 have h3 : sm (fun j => ind (S j ∧ u ≤ out j ∧ out j < l.d b)) l.n + 1 ≤ sm (fun j => ind (S j ∧ u ≤ g j ∧ g j < l.d b)) l.n := by
  have hin : ∀ j : Int, 0 ≤ j → j < l.n → S j → l.d j ≤ l.d b → (out j = -1 ∨ u ≤ out j) → u ≤ g j ∧ g j < l.d b := fun j j0 j1 hSj hdj hoj => by
   have a := hg j j0 j1 hSj
   have := hQr j j0 j1 hSj hdj hoj
   omega
  have h4 := sm_pos (f := fun j => ind (S j ∧ u ≤ g j ∧ g j < l.d b) - ind (S j ∧ u ≤ out j ∧ out j < l.d b)) (k := l.n) (fun j j0 j1 => by
   by_cases q : S j ∧ u ≤ out j ∧ out j < l.d b
   ·have hdj := (hPu (out j) q.2.1 q.2.2).2 j j0 j1 q.1 rfl
    rw [ind_t q, ind_t ⟨q.1, hin j j0 j1 q.1 hdj (.inr q.2.1)⟩]; decide
   ·rw [ind_f q]; have := (ind_rng (S j ∧ u ≤ g j ∧ g j < l.d b)).1; omega) b b0 b1
  rw [sm_sub] at h4
  have h5 : ind (S b ∧ u ≤ g b ∧ g b < l.d b) - ind (S b ∧ u ≤ out b ∧ out b < l.d b) = 1 := by
   rw [ind_t ⟨hS, hin b b0 b1 hS (Int.le_refl _) (.inl hb)⟩, ind_f fun q => by omega]; rfl
  omega
 omega
end
def Lds.Short (l : Lds) : Prop := ∀ i : Int, 0 ≤ i → i < l.n → l.len i = 1
theorem Lds.Short.can {l : Lds} (hs : l.Short) (hV : l.Valid) {k : Int} (hk : 0 ≤ k) : l.Can k ↔ CanM l k fun _ => True := by
 constructor
 ·rintro ⟨x, h1, h2, h3, h4⟩
  have hex : ∀ i : Int, ∃ t : Int, 0 ≤ i → i < l.n → (0 ≤ t ∧ t < 1000000000) ∧ x i t ≠ 0 := fun i => by
   by_cases c : 0 ≤ i ∧ i < l.n
   ·refine Classical.byContradiction fun hn => ?_
    have e := h3 i c.1 c.2
    rw [hs i c.1 c.2, sm_zeroG fun t t0 t1 => Classical.byContradiction fun hne => hn ⟨t, fun _ _ => ⟨⟨t0, t1⟩, hne⟩⟩] at e
    omega
   ·exact ⟨0, fun a b => absurd ⟨a, b⟩ c⟩
  refine ⟨fun i => Classical.choose (hex i), fun i i0 i1 _ => ?_, fun t => ?_⟩
  ·have := Classical.choose_spec (hex i) i0 i1
   exact h2 i _ i0 i1 this.2
  ·by_cases c : 0 ≤ t ∧ t < 1000000000
   ·refine Int.le_trans (sm_le fun i i0 i1 => ?_) (h4 t c.1 c.2)
    have hx := h1 i t i0 i1
    by_cases q : True ∧ Classical.choose (hex i) = t
    ·have := (Classical.choose_spec (hex i) i0 i1).2
     rw [q.2] at this
     rw [ind_t q]; omega
    ·rw [ind_f q]; exact hx.1
   ·rw [show cntE l (fun _ => True) (fun i => Classical.choose (hex i)) t = 0 from sm_zeroG fun i i0 i1 => ind_f fun q => by
     have := (Classical.choose_spec (hex i) i0 i1).1
     have e : Classical.choose (hex i) = t := q.2
     rw [e] at this
     exact c this]
    exact hk
 ·rintro ⟨g, hg, hc⟩
  refine ⟨fun i t => ind (g i = t), fun _ _ _ _ => ind_rng _, fun i t i0 i1 hne => ?_, fun i i0 i1 => ?_, fun t t0 t1 => ?_⟩
  ·by_cases c : g i = t
   ·rw [← c]; exact hg i i0 i1 trivial
   ·exact absurd (ind_f c) hne
  ·have a := hg i i0 i1 trivial
   have b := hV i i0 i1
   unfold Lds.Val at b
   rw [hs i i0 i1, sm_one1 (a := g i) (by omega) (by omega) fun t _ _ hne => ind_f fun e => hne e.symm, ind_t rfl]
  ·refine Int.le_trans (sm_le fun i i0 i1 => ?_) (hc t)
   by_cases c : g i = t
   ·rw [ind_t c, ind_t ⟨trivial, c⟩]; exact Int.le_refl _
   ·rw [ind_f c]; exact (ind_rng _).1
theorem CanM.sub {l : Lds} {k : Int} {S T : Int → Prop} (h : CanM l k T) (hST : ∀ i : Int, 0 ≤ i → i < l.n → S i → T i) : CanM l k S := by
 obtain ⟨g, hg, hc⟩ := h
 refine ⟨g, fun i i0 i1 hS => hg i i0 i1 (hST i i0 i1 hS), fun t => Int.le_trans (sm_le fun i i0 i1 => ?_) (hc t)⟩
 by_cases c : S i ∧ g i = t
 ·rw [ind_t c, ind_t ⟨hST i i0 i1 c.1, c.2⟩]; exact Int.le_refl _
 ·rw [ind_f c]; exact (ind_rng _).1
theorem CanM.congr {l : Lds} {k : Int} {S T : Int → Prop} (hST : ∀ i : Int, 0 ≤ i → i < l.n → (S i ↔ T i)) : CanM l k S ↔ CanM l k T :=
 ⟨fun h => h.sub fun i a b => (hST i a b).2, fun h => h.sub fun i a b => (hST i a b).1⟩
theorem sm_img {I : Int → Int} {n : Nat} (f : Int → Int) : ∀ q : Nat, (∀ p : Int, 0 ≤ p → p < q → 0 ≤ I p ∧ I p < n) → (∀ a b : Int, 0 ≤ a → a < b → b < q → I a ≠ I b) → sm (fun p => f (I p)) q = sm (fun i => ind (∃ p : Int, (0 ≤ p ∧ p < q) ∧ I p = i) * f i) n
 | 0, _, _ => by
  show 0 = _
  exact (sm_zeroG fun i _ _ => by rw [ind_f fun ⟨p, hp, _⟩ => by omega]; omega).symm
 | q + 1, hr, hd => by
  have ih := sm_img f q (fun p p0 p1 => hr p p0 (by omega)) (fun a b a0 ab b1 => hd a b a0 ab (by omega))
  have hq := hr q (by omega) (by omega)
  rw [show ((q + 1 : Nat) : Int) = (q : Int) + 1 by omega, sm_succ _ (by omega), ih]
  have e : sm (fun i => ind (∃ p : Int, (0 ≤ p ∧ p < (q : Int) + 1) ∧ I p = i) * f i) n = sm (fun i => ind (∃ p : Int, (0 ≤ p ∧ p < (q : Int)) ∧ I p = i) * f i + ind (i = I q) * f i) n := sm_congr fun i i0 i1 => by
   by_cases c : i = I q
   ·rw [ind_t (p := i = I q) c, ind_t (p := ∃ p : Int, (0 ≤ p ∧ p < (q : Int) + 1) ∧ I p = i) ⟨q, by omega, c.symm⟩, ind_f fun ⟨p, hp, e⟩ => hd p q hp.1 hp.2 (by omega) (e.trans c)]; omega
   ·rw [ind_f (p := i = I q) c]
    have : ind (∃ p : Int, (0 ≤ p ∧ p < (q : Int) + 1) ∧ I p = i) = ind (∃ p : Int, (0 ≤ p ∧ p < (q : Int)) ∧ I p = i) := ind_congr ⟨fun ⟨p, hp, e⟩ => ⟨p, ⟨hp.1, by
     by_cases d : p = q
     ·rw [d] at e; exact absurd e.symm c
     ·omega⟩, e⟩, fun ⟨p, hp, e⟩ => ⟨p, by omega, e⟩⟩
    rw [this]; omega
  rw [e, sm_add, sm_one1 (f := fun i => ind (i = I q) * f i) hq.1 hq.2 fun i _ _ hne => by rw [ind_f hne, Int.zero_mul], ind_t rfl, Int.one_mul]
def Lds.pick (l : Lds) (q : Nat) (I : Int → Int) : Lds := ⟨q, fun p => l.r (I p), fun p => l.d (I p), fun p => l.len (I p), fun p => l.wo (I p)⟩
theorem Lds.pick_can {l : Lds} {k : Int} {q : Nat} {I : Int → Int} (hr : ∀ p : Int, 0 ≤ p → p < q → 0 ≤ I p ∧ I p < l.n) (hd : ∀ a b : Int, 0 ≤ a → a < b → b < q → I a ≠ I b) : CanM (l.pick q I) k (fun _ => True) ↔ CanM l k fun i => ∃ p : Int, (0 ≤ p ∧ p < q) ∧ I p = i := by
 have hinj : ∀ a b : Int, 0 ≤ a → a < q → 0 ≤ b → b < q → I a = I b → a = b := fun a b a0 a1 b0 b1 e => by
  rcases Int.lt_trichotomy a b with c | c | c
  ·exact absurd e (hd a b a0 c b1)
  ·exact c
  ·exact absurd e.symm (hd b a b0 c a1)
 have hcnt : ∀ (g : Int → Int) (t : Int), cntE (l.pick q I) (fun _ => True) (fun p => g (I p)) t = cntE l (fun i => ∃ p : Int, (0 ≤ p ∧ p < q) ∧ I p = i) g t := fun g t => by
  have e := sm_img (I := I) (n := l.n) (fun i => ind (g i = t)) q hr hd
  have e1 : cntE (l.pick q I) (fun _ => True) (fun p => g (I p)) t = sm (fun p => ind (g (I p) = t)) q := sm_congr fun p _ _ => ind_congr ⟨And.right, fun h => ⟨trivial, h⟩⟩
  rw [e1, e]
  exact sm_congr fun i _ _ => ind_and.symm
 constructor
 ·rintro ⟨g, hg, hc⟩
  have hex : ∀ i : Int, ∃ p : Int, (∃ p : Int, (0 ≤ p ∧ p < q) ∧ I p = i) → (0 ≤ p ∧ p < q) ∧ I p = i := fun i => by
   by_cases c : ∃ p : Int, (0 ≤ p ∧ p < q) ∧ I p = i
   ·obtain ⟨p, hp⟩ := c; exact ⟨p, fun _ => hp⟩
   ·exact ⟨0, fun h => absurd h c⟩
  have hgi : ∀ p : Int, 0 ≤ p → p < q → g (Classical.choose (hex (I p))) = g p := fun p p0 p1 => by
   have := Classical.choose_spec (hex (I p)) ⟨p, ⟨p0, p1⟩, rfl⟩
   rw [hinj _ p this.1.1 this.1.2 p0 p1 this.2]
  refine ⟨fun i => g (Classical.choose (hex i)), fun i i0 i1 hS => ?_, fun t => ?_⟩
  ·obtain ⟨p, hp, e⟩ := hS
   have a := hg p hp.1 hp.2 trivial
   have b := hgi p hp.1 hp.2
   rw [e] at b
   show l.r i ≤ g (Classical.choose (hex i)) ∧ g (Classical.choose (hex i)) < l.d i
   rw [b, ← e]
   exact a
  ·rw [← hcnt]
   refine Int.le_trans (Int.le_of_eq ?_) (hc t)
   exact sm_congr fun p p0 p1 => ind_congr (by show True ∧ g (Classical.choose (hex (I p))) = t ↔ True ∧ g p = t; rw [hgi p p0 p1])
 ·rintro ⟨g, hg, hc⟩
  refine ⟨fun p => g (I p), fun p p0 p1 _ => ?_, fun t => by rw [hcnt]; exact hc t⟩
  have := hr p p0 p1
  exact hg (I p) this.1 this.2 ⟨p, ⟨p0, p1⟩, rfl⟩
end Go.Proofs.YtbepolognfdkeaaGreat
set_option maxRecDepth 100000
namespace Go.Proofs.YtbepolognfdkeaaGreat
noncomputable def wt7 (l : Lds) (S : Int → Prop) (out : Int → Int) : Int := sm (fun i => ind (S i ∧ out i = -1)) l.n
section
variable {l : Lds} {S : Int → Prop} {out : Int → Int}
theorem wt7_rng : 0 ≤ wt7 l S out ∧ wt7 l S out ≤ l.n := ⟨sm_nonneg fun _ _ _ => (ind_rng _).1, by
 have := sm_bound (f := fun i => ind (S i ∧ out i = -1)) (k := l.n) 1 (by omega) fun _ _ _ => (ind_rng _).2
 unfold wt7; omega⟩
theorem wt7_none (h : wt7 l S out ≤ 0) : ∀ i : Int, 0 ≤ i → i < l.n → S i → out i ≠ -1 := fun i i0 i1 hS e => by
 have := sm_pos (f := fun i => ind (S i ∧ out i = -1)) (k := l.n) (fun _ _ _ => (ind_rng _).1) i i0 i1
 have h2 : ind (S i ∧ out i = -1) = 1 := ind_t ⟨hS, e⟩
 unfold wt7 at h
 omega
theorem wt7_some (h : 0 < wt7 l S out) : ∃ i : Int, (0 ≤ i ∧ i < l.n) ∧ S i ∧ out i = -1 := Classical.byContradiction fun hn => by
 have : wt7 l S out = 0 := sm_zeroG fun i i0 i1 => ind_f fun e => hn ⟨i, ⟨i0, i1⟩, e.1, e.2⟩
 omega
theorem wt7_upd {b t : Int} (b0 : 0 ≤ b) (b1 : b < l.n) (hS : S b) (hb : out b = -1) (ht : t ≠ -1) : wt7 l S (upd out b t) = wt7 l S out - 1 := by
 unfold wt7
 have e : (fun j => ind (S j ∧ upd out b t j = -1)) = upd (fun j => ind (S j ∧ out j = -1)) b 0 := by
  funext j
  by_cases c : j = b
  ·rw [c, upd_same, upd_same, ind_f fun q => ht q.2]
  ·rw [upd_ne _ _ c, upd_ne _ _ c]
 rw [e, sm_upd _ b 0 b0 b1, ind_t ⟨hS, hb⟩]; omega
theorem wt7_all : wt7 l (fun _ => True) (fun _ => -1) = l.n := by
 unfold wt7
 rw [sm_congr (g := fun _ => 1) fun i _ _ => ind_t ⟨trivial, rfl⟩, sm_const _ (by omega)]; omega
theorem Ed.neg {k t : Int} (h : Ed l k S t out) (hV : l.Valid) {i : Int} (i0 : 0 ≤ i) (i1 : i < l.n) (hS : S i) : out i = -1 ∨ 0 ≤ out i := (h.rng i i0 i1 hS).imp id fun a => by have := (hV i i0 i1).1; omega
end
noncomputable instance (l : Lds) (k : Int) (S : Int → Prop) : Decidable (CanM l k S) := Classical.propDecidable _
end Go.Proofs.YtbepolognfdkeaaGreat
