import Derived.Test.YtbepolognfdkeaaGaQ
import Derived.Test.YtbepolognfdkeaaGbO
set_option maxRecDepth 100000
namespace Go.Proofs.Ytbepolognfdkeaa
noncomputable def cntE (l : Lds) (S : Int → Prop) (out : Int → Int) (s : Int) : Int := sm (fun j => ind (S j ∧ out j = s)) l.n
def CanM (l : Lds) (k : Int) (S : Int → Prop) : Prop := ∃ h : Int → Int, (∀ i : Int, 0 ≤ i → i < l.n → S i → l.r i ≤ h i ∧ h i < l.d i) ∧ ∀ t : Int, cntE l S h t ≤ k
structure Ed (l : Lds) (k : Int) (S : Int → Prop) (t : Int) (out : Int → Int) : Prop where
 rng : ∀ i : Int, 0 ≤ i → i < l.n → S i → out i = -1 ∨ (l.r i ≤ out i ∧ out i < l.d i ∧ out i < t)
 non : ∀ i : Int, 0 ≤ i → i < l.n → ¬ S i → out i = -1
 cap : ∀ s : Int, 0 ≤ s → cntE l S out s ≤ k
 full : ∀ i s : Int, 0 ≤ i → i < l.n → S i → 0 ≤ s → l.r i ≤ s → s < t → (out i = -1 ∨ s < out i) → cntE l S out s = k ∧ ∀ j : Int, 0 ≤ j → j < l.n → S j → out j = s → lex l.d j i
structure EdI (l : Lds) (k : Int) (S : Int → Prop) (t m : Int) (out : Int → Int) : Prop where
 rng : ∀ i : Int, 0 ≤ i → i < l.n → S i → out i = -1 ∨ (l.r i ≤ out i ∧ out i < l.d i ∧ out i ≤ t)
 non : ∀ i : Int, 0 ≤ i → i < l.n → ¬ S i → out i = -1
 cap : ∀ s : Int, 0 ≤ s → s ≠ t → cntE l S out s ≤ k
 cnt : cntE l S out t = m ∧ m ≤ k
 full : ∀ i s : Int, 0 ≤ i → i < l.n → S i → 0 ≤ s → l.r i ≤ s → s < t → (out i = -1 ∨ s < out i) → cntE l S out s = k ∧ ∀ j : Int, 0 ≤ j → j < l.n → S j → out j = s → lex l.d j i
 now : ∀ i : Int, 0 ≤ i → i < l.n → S i → l.r i ≤ t → out i = -1 → ∀ j : Int, 0 ≤ j → j < l.n → S j → out j = t → lex l.d j i
structure EdF (l : Lds) (k : Int) (S : Int → Prop) (out : Int → Int) : Prop where
 rng : ∀ i : Int, 0 ≤ i → i < l.n → S i → l.r i ≤ out i ∧ out i < l.d i
 non : ∀ i : Int, 0 ≤ i → i < l.n → ¬ S i → out i = -1
 cap : ∀ s : Int, 0 ≤ s → cntE l S out s ≤ k
 full : ∀ i s : Int, 0 ≤ i → i < l.n → S i → 0 ≤ s → l.r i ≤ s → s < out i → cntE l S out s = k ∧ ∀ j : Int, 0 ≤ j → j < l.n → S j → out j = s → lex l.d j i
section
variable {l : Lds} {k t m : Int} {S : Int → Prop} {out : Int → Int}
theorem Ed.init (hk : 0 ≤ k) : Ed l k S 0 (fun _ => -1) := by
 have hc : ∀ s : Int, 0 ≤ s → cntE l S (fun _ => -1) s = 0 := fun s s0 => sm_zeroG fun i _ _ => ind_f fun h => by
  have : (-1 : Int) = s := h.2
  omega
 exact ⟨fun i _ _ _ => .inl rfl, fun i _ _ _ => rfl, fun s s0 => by rw [hc s s0]; exact hk, fun i s i0 i1 _ s0 h1 h2 _ => by omega⟩
theorem Ed.start (h : Ed l k S t out) (t0 : 0 ≤ t) (hk : 0 ≤ k) : EdI l k S t 0 out := by
 have hno : ∀ j : Int, 0 ≤ j → j < l.n → S j → out j = t → False := fun j j0 j1 hS e => by
  rcases h.rng j j0 j1 hS with a | a <;> omega
 refine ⟨fun i i0 i1 hS => (h.rng i i0 i1 hS).imp id fun a => by omega, h.non, fun s s0 _ => h.cap s s0, ⟨?_, hk⟩, h.full, fun i i0 i1 hS hr ho j j0 j1 hSj e => (hno j j0 j1 hSj e).elim⟩
 exact sm_zeroG fun i i0 i1 => ind_f fun e => hno i i0 i1 e.1 e.2
theorem Ed.skip (h : Ed l k S t out) {u : Int} (htu : t ≤ u) (hw : ∀ i : Int, 0 ≤ i → i < l.n → S i → out i = -1 → u ≤ l.r i) : Ed l k S u out := by
 refine ⟨fun i i0 i1 hS => (h.rng i i0 i1 hS).imp id fun a => by omega, h.non, h.cap, fun i s i0 i1 hS s0 hr hs ho => ?_⟩
 by_cases c : s < t
 ·exact h.full i s i0 i1 hS s0 hr c ho
 ·rcases ho with a | a
  ·have := hw i i0 i1 hS a; omega
  ·rcases h.rng i i0 i1 hS with b | b <;> omega
theorem cntE_upd {b s : Int} (b0 : 0 ≤ b) (b1 : b < l.n) (hS : S b) (ho : out b ≠ s) (hne : t ≠ s) : cntE l S (upd out b t) s = cntE l S out s := sm_congr fun i _ _ => ind_congr (by
  by_cases c : i = b
  ·rw [c, upd_same]; exact ⟨fun e => absurd e.2 hne, fun e => absurd e.2 ho⟩
  ·rw [upd_ne _ _ c])
theorem cntE_inc {b : Int} (b0 : 0 ≤ b) (b1 : b < l.n) (hS : S b) (ho : out b ≠ t) : cntE l S (upd out b t) t = cntE l S out t + 1 := by
 unfold cntE
 have e : (fun j => ind (S j ∧ upd out b t j = t)) = upd (fun j => ind (S j ∧ out j = t)) b 1 := by
  funext j
  by_cases c : j = b
  ·rw [c, upd_same, upd_same, ind_t ⟨hS, rfl⟩]
  ·rw [upd_ne _ _ c, upd_ne _ _ c]
 rw [e, sm_upd _ b 1 b0 b1, ind_f fun h => ho h.2]; omega
theorem EdI.pick (h : EdI l k S t m out) {b : Int} (b0 : 0 ≤ b) (b1 : b < l.n) (hS : S b) (hb : out b = -1) (t0 : 0 ≤ t) (hr : l.r b ≤ t) (hd : t < l.d b) (hm : m < k) (hl : ∀ i : Int, 0 ≤ i → i < l.n → S i → out i = -1 → l.r i ≤ t → i ≠ b → lex l.d b i) : EdI l k S t (m + 1) (upd out b t) := by
 refine ⟨fun i i0 i1 hSi => ?_, fun i i0 i1 hSi => ?_, fun s s0 hst => ?_, ⟨?_, by omega⟩, fun i s i0 i1 hSi s0 hri hs ho => ?_, fun i i0 i1 hSi hri ho j j0 j1 hSj e => ?_⟩
 ·by_cases c : i = b
  ·rw [c, upd_same]; exact .inr ⟨hr, hd, Int.le_refl _⟩
  ·rw [upd_ne _ _ c]; exact h.rng i i0 i1 hSi
 ·rw [upd_ne _ _ fun e : i = b => hSi (by rw [e]; exact hS)]; exact h.non i i0 i1 hSi
 ·rw [cntE_upd b0 b1 hS (by omega) fun e => hst e.symm]; exact h.cap s s0 hst
 ·rw [cntE_inc b0 b1 hS (by omega), h.cnt.1]
 ·have ho' : out i = -1 ∨ s < out i := by
   by_cases c : i = b
   ·rw [c]; exact .inl hb
   ·rw [upd_ne _ _ c] at ho; exact ho
  obtain ⟨g1, g2⟩ := h.full i s i0 i1 hSi s0 hri hs ho'
  rw [cntE_upd b0 b1 hS (by omega) (by omega)]
  refine ⟨g1, fun j j0 j1 hSj e => ?_⟩
  by_cases c : j = b
  ·rw [c, upd_same] at e; omega
  ·rw [upd_ne _ _ c] at e; exact g2 j j0 j1 hSj e
 ·by_cases c : i = b
  ·rw [c, upd_same] at ho; omega
  ·rw [upd_ne _ _ c] at ho
   by_cases c2 : j = b
   ·rw [c2]; exact hl i i0 i1 hSi ho hri c
   ·rw [upd_ne _ _ c2] at e; exact h.now i i0 i1 hSi hri ho j j0 j1 hSj e
theorem EdI.finish (h : EdI l k S t m out) (hd : m = k ∨ ∀ i : Int, 0 ≤ i → i < l.n → S i → out i = -1 → l.r i ≤ t → False) : Ed l k S (t + 1) out := by
 refine ⟨fun i i0 i1 hS => (h.rng i i0 i1 hS).imp id fun a => by omega, h.non, fun s s0 => ?_, fun i s i0 i1 hS s0 hr hs ho => ?_⟩
 ·by_cases c : s = t
  ·rw [c, h.cnt.1]; exact h.cnt.2
  ·exact h.cap s s0 c
 ·by_cases c : s = t
  ·rw [c] at hr ho ⊢
   have ho2 : out i = -1 := by
    rcases ho with a | a
    ·exact a
    ·rcases h.rng i i0 i1 hS with b | b <;> omega
   rcases hd with a | a
   ·exact ⟨by rw [h.cnt.1, a], h.now i i0 i1 hS hr ho2⟩
   ·exact (a i i0 i1 hS ho2 hr).elim
  ·exact h.full i s i0 i1 hS s0 hr (by omega) ho
theorem Ed.final (h : Ed l k S t out) (hV : l.Valid) (ha : ∀ i : Int, 0 ≤ i → i < l.n → S i → out i ≠ -1) : EdF l k S out :=
 ⟨fun i i0 i1 hS => by rcases h.rng i i0 i1 hS with a | a; exact absurd a (ha i i0 i1 hS); exact ⟨a.1, a.2.1⟩, h.non, h.cap, fun i s i0 i1 hS s0 hr hs => h.full i s i0 i1 hS s0 hr (by rcases h.rng i i0 i1 hS with a | a; exact absurd a (ha i i0 i1 hS); omega) (.inr hs)⟩
theorem EdF.can (h : EdF l k S out) (hV : l.Valid) (hk : 0 ≤ k) : CanM l k S := by
 refine ⟨out, h.rng, fun t => ?_⟩
 by_cases c : 0 ≤ t
 ·exact h.cap t c
 ·rw [show cntE l S out t = 0 from sm_zeroG fun i i0 i1 => ind_f fun e => by
   have h1 := h.rng i i0 i1 e.1
   have h2 := (hV i i0 i1).1
   omega]
  exact hk
theorem EdF.uniq {out' : Int → Int} (h : EdF l k S out) (h' : EdF l k S out') (hV : l.Valid) : ∀ i : Int, 0 ≤ i → i < l.n → out i = out' i := by
 have key : ∀ t : Nat, ∀ i : Int, 0 ≤ i → i < l.n → S i → (out i = t ↔ out' i = t) := by
  intro t
  induction t using Nat.strongRecOn with
  | _ t ih =>
   have one : ∀ (o o' : Int → Int), EdF l k S o → EdF l k S o' → (∀ s : Nat, s < t → ∀ i : Int, 0 ≤ i → i < l.n → S i → (o i = s ↔ o' i = s)) → ∀ i : Int, 0 ≤ i → i < l.n → S i → o i = t → o' i = t := by
    intro o o' g g' ih i i0 i1 hS e
    refine Classical.byContradiction fun hne => ?_
    have r0 := (hV i i0 i1).1
    have a := g.rng i i0 i1 hS
    have a' := g'.rng i i0 i1 hS
    have hlt : (t : Int) < o' i := by
     refine Classical.byContradiction fun hn => ?_
     have := (ih (o' i).toNat (by omega) i i0 i1 hS).2 (by omega)
     omega
    obtain ⟨f1, f2⟩ := g'.full i t i0 i1 hS (by omega) (by omega) hlt
    have hsub : ∀ j : Int, 0 ≤ j → j < l.n → S j → o' j = t → o j = t := fun j j0 j1 hSj ej => by
     refine Classical.byContradiction fun hj => ?_
     have b := g.rng j j0 j1 hSj
     have b' := g'.rng j j0 j1 hSj
     have r0j := (hV j j0 j1).1
     have hlt2 : (t : Int) < o j := by
      refine Classical.byContradiction fun hn => ?_
      have := (ih (o j).toNat (by omega) j j0 j1 hSj).1 (by omega)
      omega
     obtain ⟨_, q2⟩ := g.full j t j0 j1 hSj (by omega) (by omega) hlt2
     exact lex_asymm (q2 i i0 i1 hS e) (f2 j j0 j1 hSj ej)
    have hc := g.cap t (by omega)
    have : cntE l S o' t < cntE l S o t := by
     have h1 : cntE l S o t - cntE l S o' t = sm (fun j => ind (S j ∧ o j = t) - ind (S j ∧ o' j = t)) l.n := by rw [sm_sub]; rfl
     have h2 := sm_pos (f := fun j => ind (S j ∧ o j = t) - ind (S j ∧ o' j = t)) (k := l.n) (fun j j0 j1 => by
      by_cases q : S j ∧ o' j = t
      ·rw [ind_t q, ind_t ⟨q.1, hsub j j0 j1 q.1 q.2⟩]; decide
      ·rw [ind_f q]; have := (ind_rng (S j ∧ o j = t)).1; omega) i i0 i1
     have h3 : ind (S i ∧ o i = t) - ind (S i ∧ o' i = t) = 1 := by rw [ind_t ⟨hS, e⟩, ind_f fun q => hne q.2]; rfl
     omega
    omega
   exact fun i i0 i1 hS => ⟨one out out' h h' ih i i0 i1 hS, one out' out h' h (fun s hs i i0 i1 hS => (ih s hs i i0 i1 hS).symm) i i0 i1 hS⟩
 intro i i0 i1
 by_cases hS : S i
 ·have a := h.rng i i0 i1 hS
  have r0 := (hV i i0 i1).1
  have := (key (out i).toNat i i0 i1 hS).1 (by omega)
  omega
 ·rw [h.non i i0 i1 hS, h'.non i i0 i1 hS]
end
end Go.Proofs.Ytbepolognfdkeaa
