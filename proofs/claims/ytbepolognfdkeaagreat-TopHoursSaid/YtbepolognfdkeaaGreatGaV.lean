import Derived.Test.YtbepolognfdkeaaGreatGaT
set_option maxRecDepth 100000
namespace Go.Proofs.YtbepolognfdkeaaGreat
noncomputable def ins7 (l : Lds) (S : Int → Prop) (u v : Int) : Int := sm (fun j => ind (S j ∧ u ≤ l.r j ∧ l.d j ≤ v)) l.n
def Viol (l : Lds) (k : Int) (S : Int → Prop) : Prop := ∃ u v : Int, u ≤ v ∧ k * (v - u) < ins7 l S u v
section
variable {l : Lds} {k t m : Int} {S : Int → Prop} {out : Int → Int}
theorem sm_hours (h : Int → Int) (P : Int → Prop) {u W : Int} (hW : 0 ≤ W) (hr : ∀ j : Int, 0 ≤ j → j < l.n → P j → u ≤ h j ∧ h j < u + W) : sm (fun s => sm (fun j => ind (P j ∧ h j = u + s)) l.n) W = sm (fun j => ind (P j)) l.n := by
 rw [sm_swap]
 refine sm_congr fun j j0 j1 => ?_
 by_cases c : P j
 ·have a := hr j j0 j1 c
  rw [ind_t c, sm_one1 (a := h j - u) (by omega) (by omega) fun s _ _ hne => ind_f fun e => hne (by omega), ind_t ⟨c, by omega⟩]
 ·rw [ind_f c]
  exact sm_zeroG fun s _ _ => ind_f fun e => c e.1
theorem ins7_le (hc : CanM l k S) {u v : Int} (huv : u ≤ v) : ins7 l S u v ≤ k * (v - u) := by
 obtain ⟨h, h1, h2⟩ := hc
 have e := sm_hours (l := l) h (fun j => S j ∧ u ≤ l.r j ∧ l.d j ≤ v) (u := u) (W := v - u) (by omega) fun j j0 j1 hP => by
  have := h1 j j0 j1 hP.1; omega
 unfold ins7
 rw [← e, Int.mul_comm]
 refine sm_bound k (by omega) fun s s0 s1 => Int.le_trans (sm_le fun j j0 j1 => ?_) (h2 (u + s))
 by_cases c : (S j ∧ u ≤ l.r j ∧ l.d j ≤ v) ∧ h j = u + s
 ·rw [ind_t c, ind_t ⟨c.1.1, c.2⟩]; exact Int.le_refl _
 ·rw [ind_f c]; exact (ind_rng _).1
theorem EdI.viol (h : EdI l k S t m out) (hV : l.Valid) {b : Int} (b0 : 0 ≤ b) (b1 : b < l.n) (hS : S b) (hb : out b = -1) (hd : l.d b ≤ t) : Viol l k S := by
 have hvb := hV b b0 b1
 unfold Lds.Val at hvb
 let P : Int → Prop := fun u => ∀ s : Int, u ≤ s → s < l.d b → cntE l S out s = k ∧ ∀ j : Int, 0 ≤ j → j < l.n → S j → out j = s → l.d j ≤ l.d b
 have hP0 : P (l.r b) := fun s s0 s1 => by
  obtain ⟨a1, a2⟩ := h.full b s b0 b1 hS (by omega) s0 (by omega) (.inl hb)
  exact ⟨a1, fun j j0 j1 hSj e => by have := a2 j j0 j1 hSj e; unfold lex at this; omega⟩
 have hex : ∀ n : Nat, P n → ∃ u : Int, 0 ≤ u ∧ u ≤ n ∧ P u ∧ (u = 0 ∨ ¬ P (u - 1)) := by
  intro n
  induction n with
  | zero => intro hp; exact ⟨0, Int.le_refl 0, by omega, hp, .inl rfl⟩
  | succ n ih =>
   intro hp
   by_cases c : P n
   ·obtain ⟨u, u0, u1, u2, u3⟩ := ih c
    exact ⟨u, u0, by omega, u2, u3⟩
   ·exact ⟨((n + 1 : Nat) : Int), by omega, Int.le_refl _, hp, .inr (by rw [show ((n + 1 : Nat) : Int) - 1 = n by omega]; exact c)⟩
 obtain ⟨u, u0, u1, hPu, hun⟩ := hex (l.r b).toNat (by rw [Int.toNat_of_nonneg hvb.1]; exact hP0)
 have hQr : ∀ j : Int, 0 ≤ j → j < l.n → S j → l.d j ≤ l.d b → (out j = -1 ∨ u ≤ out j) → u ≤ l.r j := fun j j0 j1 hSj hdj hoj => by
  refine Classical.byContradiction fun hn => ?_
  have hrj := (hV j j0 j1).1
  have hu0 : u ≠ 0 := by omega
  refine hun.resolve_left hu0 fun s s0 s1 => ?_
  by_cases c : s = u - 1
  ·obtain ⟨a1, a2⟩ := h.full j s j0 j1 hSj (by omega) (by omega) (by omega) (hoj.imp id fun a => by omega)
   exact ⟨a1, fun q q0 q1 hSq e => by have := a2 q q0 q1 hSq e; unfold lex at this; omega⟩
  ·exact hPu s (by omega) s1
 refine ⟨u, l.d b, by omega, ?_⟩
 have e := sm_hours (l := l) out (fun j => S j ∧ u ≤ out j ∧ out j < l.d b) (u := u) (W := l.d b - u) (by omega) fun j _ _ hP => by omega
 have e2 : sm (fun s => sm (fun j => ind ((S j ∧ u ≤ out j ∧ out j < l.d b) ∧ out j = u + s)) l.n) (l.d b - u) = (l.d b - u) * k := by
  rw [sm_congr (g := fun _ => k) fun s s0 s1 => ?_, sm_const _ (by omega)]
  rw [← (hPu (u + s) (by omega) (by omega)).1]
  exact sm_congr fun j _ _ => ind_congr ⟨fun q => ⟨q.1.1, q.2⟩, fun q => ⟨⟨q.1, by omega, by omega⟩, q.2⟩⟩
 rw [e2] at e
 have h4 := sm_pos (f := fun j => ind (S j ∧ u ≤ l.r j ∧ l.d j ≤ l.d b) - ind (S j ∧ u ≤ out j ∧ out j < l.d b)) (k := l.n) (fun j j0 j1 => by
  by_cases q : S j ∧ u ≤ out j ∧ out j < l.d b
  ·have hdj := (hPu (out j) q.2.1 q.2.2).2 j j0 j1 q.1 rfl
   rw [ind_t q, ind_t ⟨q.1, hQr j j0 j1 q.1 hdj (.inr q.2.1), hdj⟩]; decide
  ·rw [ind_f q]; have := (ind_rng (S j ∧ u ≤ l.r j ∧ l.d j ≤ l.d b)).1; omega) b b0 b1
 rw [sm_sub] at h4
 have h5 : ind (S b ∧ u ≤ l.r b ∧ l.d b ≤ l.d b) - ind (S b ∧ u ≤ out b ∧ out b < l.d b) = 1 := by
  rw [ind_t ⟨hS, hQr b b0 b1 hS (Int.le_refl _) (.inl hb), Int.le_refl _⟩, ind_f fun q => by omega]; rfl
 unfold ins7
 rw [Int.mul_comm]
 omega
theorem lex_min (f : Int → Int) (P : Int → Prop) : ∀ n : Nat, (∃ i : Int, (0 ≤ i ∧ i < n) ∧ P i) → ∃ b : Int, (0 ≤ b ∧ b < n) ∧ P b ∧ ∀ i : Int, 0 ≤ i → i < n → P i → i ≠ b → lex f b i
 | 0, ⟨i, hi, _⟩ => by omega
 | n + 1, ⟨i, hi, hP⟩ => by
  by_cases c : ∃ i : Int, (0 ≤ i ∧ i < n) ∧ P i
  ·obtain ⟨b, hb, hPb, hl⟩ := lex_min f P n c
   by_cases c2 : P n ∧ f n < f b
   ·refine ⟨n, by omega, c2.1, fun i i0 i1 hPi hne => ?_⟩
    by_cases e : i = b
    ·rw [e]; exact .inl c2.2
    ·have := hl i i0 (by omega) hPi e
     unfold lex at this ⊢; omega
   ·refine ⟨b, by omega, hPb, fun i i0 i1 hPi hne => ?_⟩
    by_cases e : i = n
    ·rw [e] at hPi ⊢
     have : ¬ f n < f b := fun h => c2 ⟨hPi, h⟩
     unfold lex; omega
    ·exact hl i i0 (by omega) hPi hne
  ·have : i = n := Classical.byContradiction fun hn => c ⟨i, by omega, hP⟩
   rw [this] at hP
   refine ⟨n, by omega, hP, fun a a0 a1 ha hne => absurd ⟨a, by omega, ha⟩ c⟩
theorem EdI.total (hV : l.Valid) (t0 : 0 ≤ t) : ∀ (N : Nat) (m : Int) (out : Int → Int), EdI l k S t m out → k - m ≤ N → (∃ out', Ed l k S (t + 1) out') ∨ Viol l k S
 | 0, m, out, h, hN => .inl ⟨out, h.finish (.inl (by have := h.cnt.2; omega))⟩
 | N + 1, m, out, h, hN => by
  by_cases c : ∃ i : Int, (0 ≤ i ∧ i < l.n) ∧ S i ∧ out i = -1 ∧ l.r i ≤ t
  ·by_cases cm : m = k
   ·exact .inl ⟨out, h.finish (.inl cm)⟩
   ·obtain ⟨b, hb, ⟨hS, ho, hr⟩, hl⟩ := lex_min l.d (fun i => S i ∧ out i = -1 ∧ l.r i ≤ t) l.n c
    by_cases cd : l.d b ≤ t
    ·exact .inr (h.viol hV hb.1 hb.2 hS ho cd)
    ·have hm := h.cnt.2
     exact EdI.total hV t0 N (m + 1) (upd out b t) (h.pick hb.1 hb.2 hS ho t0 hr (by omega) (by omega) fun i i0 i1 hSi hoi hri hne => hl i i0 i1 ⟨hSi, hoi, hri⟩ hne) (by omega)
  ·exact .inl ⟨out, h.finish (.inr fun i i0 i1 hS ho hr => c ⟨i, ⟨i0, i1⟩, hS, ho, hr⟩)⟩
theorem Ed.total (hV : l.Valid) (hk : 0 ≤ k) : ∀ (N : Nat) (t : Int) (out : Int → Int), 0 ≤ t → Ed l k S t out → 1000000 - t ≤ N → CanM l k S ∨ Viol l k S
 | 0, t, out, t0, h, hN => by
  by_cases c : ∃ i : Int, (0 ≤ i ∧ i < l.n) ∧ S i ∧ out i = -1
  ·obtain ⟨i, hi, hS, ho⟩ := c
   have hv := hV i hi.1 hi.2
   unfold Lds.Val at hv
   exact .inr ((h.start t0 hk).viol hV hi.1 hi.2 hS ho (by omega))
  ·exact .inl ((h.final hV fun i i0 i1 hS ho => c ⟨i, ⟨i0, i1⟩, hS, ho⟩).can hV hk)
 | N + 1, t, out, t0, h, hN => by
  rcases EdI.total hV t0 k.toNat 0 out (h.start t0 hk) (by omega) with ⟨out', h'⟩ | h'
  ·exact Ed.total hV hk N (t + 1) out' (by omega) h' (by omega)
  ·exact .inr h'
theorem can_or_viol (hV : l.Valid) (hk : 0 ≤ k) (S : Int → Prop) : CanM l k S ∨ Viol l k S := Ed.total hV hk 1000000 0 _ (Int.le_refl 0) (Ed.init hk) (by omega)
theorem canM_max {A F : Int → Prop} (hk : 0 ≤ k) (hA : CanM l k A) (hF : CanM l k F) (hr0 : ∀ i : Int, 0 ≤ i → i < l.n → 0 ≤ l.r i ∧ l.d i ≤ 1000000) (hT : ∀ i : Int, 0 ≤ i → i < l.n → F i → A i ∨ ∃ u v : Int, u ≤ v ∧ (u ≤ l.r i ∧ l.d i ≤ v) ∧ k * (v - u) ≤ ins7 l A u v) : sm (fun i => ind (F i)) l.n ≤ sm (fun i => ind (A i)) l.n := by
 obtain ⟨h, h1, h2⟩ := hA
 obtain ⟨g, g1, g2⟩ := hF
 let Q : Int → Prop := fun i => ∃ u v : Int, u ≤ v ∧ (u ≤ l.r i ∧ l.d i ≤ v) ∧ k * (v - u) ≤ ins7 l A u v
 let Y : Int → Prop := fun t => ∃ u v : Int, (u ≤ t ∧ t < v) ∧ k * (v - u) ≤ ins7 l A u v
 have hfull : ∀ t : Int, Y t → k ≤ sm (fun j => ind ((A j ∧ Q j) ∧ h j = t)) l.n := fun t ⟨u, v, huv, hb⟩ => by
  refine Classical.byContradiction fun hn => ?_
  have e := sm_hours (l := l) h (fun j => A j ∧ u ≤ l.r j ∧ l.d j ≤ v) (u := u) (W := v - u) (by omega) fun j j0 j1 hP => by
   have := h1 j j0 j1 hP.1; omega
  have hle : ∀ s : Int, 0 ≤ s → s < v - u → sm (fun j => ind ((A j ∧ u ≤ l.r j ∧ l.d j ≤ v) ∧ h j = u + s)) l.n ≤ k := fun s _ _ => Int.le_trans (sm_le fun j j0 j1 => by
   by_cases c : (A j ∧ u ≤ l.r j ∧ l.d j ≤ v) ∧ h j = u + s
   ·rw [ind_t c, ind_t ⟨c.1.1, c.2⟩]; exact Int.le_refl _
   ·rw [ind_f c]; exact (ind_rng _).1) (h2 (u + s))
  have h5 := sm_pos (f := fun s => k - sm (fun j => ind ((A j ∧ u ≤ l.r j ∧ l.d j ≤ v) ∧ h j = u + s)) l.n) (k := v - u) (fun s s0 s1 => by have := hle s s0 s1; omega) (t - u) (by omega) (by omega)
  rw [sm_sub, sm_const _ (show 0 ≤ v - u by omega), e] at h5
  have h6 : sm (fun j => ind ((A j ∧ u ≤ l.r j ∧ l.d j ≤ v) ∧ h j = u + (t - u))) l.n ≤ sm (fun j => ind ((A j ∧ Q j) ∧ h j = t)) l.n := sm_le fun j j0 j1 => by
   by_cases c : (A j ∧ u ≤ l.r j ∧ l.d j ≤ v) ∧ h j = u + (t - u)
   ·rw [ind_t c, ind_t ⟨⟨c.1.1, u, v, by omega, c.1.2, hb⟩, by omega⟩]; exact Int.le_refl _
   ·rw [ind_f c]; exact (ind_rng _).1
  have h7 : k * (v - u) ≤ sm (fun j => ind (A j ∧ u ≤ l.r j ∧ l.d j ≤ v)) l.n := hb
  rw [Int.mul_comm] at h7
  omega
 have eF := sm_hours (l := l) g (fun j => F j ∧ Q j) (u := 0) (W := 1000000) (by decide) fun j j0 j1 hP => by
  have a := g1 j j0 j1 hP.1
  have b := hr0 j j0 j1
  omega
 have eA := sm_hours (l := l) h (fun j => A j ∧ Q j) (u := 0) (W := 1000000) (by decide) fun j j0 j1 hP => by
  have a := h1 j j0 j1 hP.1
  have b := hr0 j j0 j1
  omega
 have hin : sm (fun j => ind (F j ∧ Q j)) l.n ≤ sm (fun j => ind (A j ∧ Q j)) l.n := by
  rw [← eF, ← eA]
  refine sm_le fun s s0 s1 => ?_
  by_cases c : Y (0 + s)
  ·refine Int.le_trans (Int.le_trans (sm_le fun j j0 j1 => ?_) (g2 (0 + s))) (hfull (0 + s) c)
   by_cases q : (F j ∧ Q j) ∧ g j = 0 + s
   ·rw [ind_t q, ind_t ⟨q.1.1, q.2⟩]; exact Int.le_refl _
   ·rw [ind_f q]; exact (ind_rng _).1
  ·rw [sm_zeroG fun j j0 j1 => ind_f fun q => ?_]
   ·exact sm_nonneg fun _ _ _ => (ind_rng _).1
   ·obtain ⟨u, v, huv, hw, hb⟩ := q.1.2
    have a := g1 j j0 j1 q.1.1
    exact c ⟨u, v, by omega, hb⟩
 have hout : sm (fun j => ind (F j ∧ ¬ Q j)) l.n ≤ sm (fun j => ind (A j ∧ ¬ Q j)) l.n := sm_le fun j j0 j1 => by
  by_cases c : F j ∧ ¬ Q j
  ·rcases hT j j0 j1 c.1 with a | a
   ·rw [ind_t c, ind_t ⟨a, c.2⟩]; exact Int.le_refl _
   ·exact absurd a c.2
  ·rw [ind_f c]; exact (ind_rng _).1
 have split : ∀ B : Int → Prop, sm (fun j => ind (B j)) l.n = sm (fun j => ind (B j ∧ Q j)) l.n + sm (fun j => ind (B j ∧ ¬ Q j)) l.n := fun B => by
  rw [← sm_add]
  refine sm_congr fun j _ _ => ?_
  by_cases a : B j
  ·by_cases b : Q j
   ·rw [ind_t a, ind_t ⟨a, b⟩, ind_f fun c => c.2 b]; rfl
   ·rw [ind_t a, ind_f fun c => b c.2, ind_t ⟨a, b⟩]; rfl
  ·rw [ind_f a, ind_f fun c => a c.1, ind_f fun c => a c.1]; rfl
 rw [split F, split A]
 omega
end
end Go.Proofs.YtbepolognfdkeaaGreat
set_option maxRecDepth 100000
namespace Go.Proofs.YtbepolognfdkeaaGreat
def grd (l : Lds) (k : Int) (Z : Int → Int) : Nat → Int → Prop
 | 0 => fun _ => False
 | p + 1 => fun i => grd l k Z p i ∨ (i = Z p ∧ CanM l k fun j => grd l k Z p j ∨ j = Z p)
def SrtW (l : Lds) (Z : Int → Int) : Prop := SrtS (fun i => -(l.wo i)) (fun i => i) l.n Z l.n
section
variable {l : Lds} {k : Int} {Z : Int → Int}
theorem SrtW.rng (h : SrtW l Z) {p : Int} (p0 : 0 ≤ p) (p1 : p < l.n) : 0 ≤ Z p ∧ Z p < l.n := by
 obtain ⟨a, ha, e⟩ := (h.same (Z p)).1 ⟨p, ⟨p0, p1⟩, rfl⟩
 have e' : a = Z p := e
 omega
theorem SrtW.ex (h : SrtW l Z) {i : Int} (i0 : 0 ≤ i) (i1 : i < l.n) : ∃ p : Int, (0 ≤ p ∧ p < l.n) ∧ Z p = i := (h.same i).2 ⟨i, ⟨i0, i1⟩, rfl⟩
theorem SrtW.ne (h : SrtW l Z) (a b : Int) (a0 : 0 ≤ a) (ab : a < b) (b1 : b < l.n) : Z a ≠ Z b := fun e => by
 have := h.srt a b a0 ab b1
 rw [e] at this
 exact lex_irr this
theorem grd_mono : ∀ {q p : Nat} {i : Int}, p ≤ q → grd l k Z p i → grd l k Z q i
 | 0, p, i, h, hg => by
  obtain rfl : p = 0 := by omega
  exact hg
 | q + 1, p, i, h, hg => by
  by_cases c : p = q + 1
  ·rw [c] at hg; exact hg
  ·exact .inl (grd_mono (by omega) hg)
theorem grd_in : ∀ {p : Nat} {i : Int}, grd l k Z p i → ∃ q : Int, (0 ≤ q ∧ q < p) ∧ Z q = i
 | 0, i, h => h.elim
 | p + 1, i, h => by
  rcases h with h | h
  ·obtain ⟨q, hq, e⟩ := grd_in h
   exact ⟨q, by omega, e⟩
  ·exact ⟨p, by omega, h.1.symm⟩
theorem grd_can (hk : 0 ≤ k) : ∀ p : Nat, CanM l k (grd l k Z p)
 | 0 => ⟨fun _ => 0, fun _ _ _ h => h.elim, fun t => by rw [show cntE l (grd l k Z 0) (fun _ => 0) t = 0 from sm_zeroG fun i _ _ => ind_f fun e => e.1]; exact hk⟩
 | p + 1 => by
  by_cases c : CanM l k fun j => grd l k Z p j ∨ j = Z p
  ·exact c.sub fun i _ _ h => h.imp id fun a => a.1
  ·exact (grd_can hk p).sub fun i _ _ h => h.elim id fun a => absurd a.2 c
theorem grd_back (h : SrtW l Z) : ∀ {n p : Nat}, n ≤ l.n → p ≤ n → ∀ {q : Int}, 0 ≤ q → q < p → grd l k Z n (Z q) → grd l k Z p (Z q)
 | 0, p, _, hp, q, q0, q1, hg => by omega
 | n + 1, p, hn, hp, q, q0, q1, hg => by
  by_cases c : p = n + 1
  ·rw [c]; exact hg
  ·rcases hg with hg | hg
   ·exact grd_back h (by omega) (by omega) q0 q1 hg
   ·exact absurd hg.1 (h.ne q n q0 (by omega) (by omega))
theorem grd_max (hV : l.Valid) (hk : 0 ≤ k) (h : SrtW l Z) {p : Nat} (hp : p ≤ l.n) {F : Int → Prop} (hF : CanM l k F) (hin : ∀ i : Int, 0 ≤ i → i < l.n → F i → ∃ q : Int, (0 ≤ q ∧ q < p) ∧ Z q = i) : sm (fun i => ind (F i)) l.n ≤ sm (fun i => ind (grd l k Z p i)) l.n := by
 refine canM_max hk (grd_can hk p) hF (fun i i0 i1 => ⟨(hV i i0 i1).1, (hV i i0 i1).2.2.1⟩) fun i i0 i1 hFi => ?_
 obtain ⟨q, hq, e⟩ := hin i i0 i1 hFi
 obtain ⟨a, rfl⟩ := Int.eq_ofNat_of_zero_le hq.1
 by_cases c : CanM l k fun j => grd l k Z a j ∨ j = Z a
 ·exact .inl (grd_mono (show a + 1 ≤ p by omega) (.inr ⟨e.symm, c⟩))
 ·refine .inr ?_
  obtain ⟨u, v, huv, hb⟩ := (can_or_viol hV hk fun j => grd l k Z a j ∨ j = Z a).resolve_left c
  have h1 := ins7_le (grd_can (l := l) (Z := Z) hk a) huv
  have h2 : ins7 l (fun j => grd l k Z a j ∨ j = Z a) u v ≤ ins7 l (grd l k Z a) u v + ind (u ≤ l.r i ∧ l.d i ≤ v) := by
   have e9 : sm (fun j => ind (grd l k Z a j ∧ u ≤ l.r j ∧ l.d j ≤ v) + ind (j = i ∧ u ≤ l.r i ∧ l.d i ≤ v)) l.n = ins7 l (grd l k Z a) u v + ind (u ≤ l.r i ∧ l.d i ≤ v) := by
    rw [sm_add, sm_one1 (f := fun j => ind (j = i ∧ u ≤ l.r i ∧ l.d i ≤ v)) i0 i1 fun j _ _ hne => ind_f fun q => hne q.1]
    rw [ind_congr (p := i = i ∧ u ≤ l.r i ∧ l.d i ≤ v) (q := u ≤ l.r i ∧ l.d i ≤ v) ⟨And.right, fun q => ⟨rfl, q⟩⟩]; rfl
   rw [← e9]
   refine sm_le fun j _ _ => ?_
   have r1 := ind_rng (grd l k Z a j ∧ u ≤ l.r j ∧ l.d j ≤ v)
   have r2 := ind_rng (j = i ∧ u ≤ l.r i ∧ l.d i ≤ v)
   by_cases q : (grd l k Z a j ∨ j = Z a) ∧ u ≤ l.r j ∧ l.d j ≤ v
   ·rw [ind_t q]
    rcases q.1 with x | x
    ·rw [ind_t ⟨x, q.2⟩]; omega
    ·have x2 : j = i := x.trans e
     rw [ind_t (p := j = i ∧ u ≤ l.r i ∧ l.d i ≤ v) ⟨x2, by rw [← x2]; exact q.2⟩]; omega
   ·rw [ind_f q]; omega
  have h3 : u ≤ l.r i ∧ l.d i ≤ v := Classical.byContradiction fun hn => by rw [ind_f hn] at h2; omega
  rw [ind_t h3] at h2
  have h4 : ins7 l (grd l k Z a) u v ≤ ins7 l (grd l k Z p) u v := sm_le fun j _ _ => by
   by_cases q : grd l k Z a j ∧ u ≤ l.r j ∧ l.d j ≤ v
   ·rw [ind_t q, ind_t ⟨grd_mono (show a ≤ p by omega) q.1, q.2⟩]; exact Int.le_refl _
   ·rw [ind_f q]; exact (ind_rng _).1
  exact ⟨u, v, huv, h3, by omega⟩
theorem sm_ord (h : SrtW l Z) (f : Int → Int) : sm (fun p => f (Z p)) l.n = sm f l.n := by
 rw [sm_img (I := Z) (n := l.n) f l.n (fun p p0 p1 => h.rng p0 p1) fun a b a0 ab b1 => h.ne a b a0 ab b1]
 exact sm_congr fun i i0 i1 => by rw [ind_t (h.ex i0 i1), Int.one_mul]
theorem abel {w c : Int → Int} (n : Nat) (hw : ∀ p : Int, 0 ≤ p → p + 1 < n → w (p + 1) ≤ w p) (hw0 : ∀ p : Int, 0 ≤ p → p < n → 0 ≤ w p) (hc : ∀ p : Nat, p ≤ n → sm c p ≤ 0) : sm (fun p => w p * c p) n ≤ 0 := by
 have key : ∀ p : Nat, p + 1 ≤ n → sm (fun p => w p * c p) ((p + 1 : Nat) : Int) ≤ w p * sm c ((p + 1 : Nat) : Int) := by
  intro p
  induction p with
  | zero => intro _; rw [show ((0 + 1 : Nat) : Int) = 0 + 1 by omega, sm_succ _ (Int.le_refl 0), sm_succ _ (Int.le_refl 0), sm_zero, sm_zero, Int.zero_add, Int.zero_add]; exact Int.le_refl _
  | succ p ih =>
   intro hp
   have i1 := ih (by omega)
   have h1 := hw p (by omega) (by omega)
   have h2 := hc (p + 1) (by omega)
   rw [show ((p + 1 + 1 : Nat) : Int) = ((p + 1 : Nat) : Int) + 1 by omega, sm_succ _ (by omega), sm_succ _ (by omega), Int.mul_add]
   have e : (((p + 1 : Nat) : Int)) = (p : Int) + 1 := by omega
   have h3 : w p * sm c ((p + 1 : Nat) : Int) ≤ w ((p + 1 : Nat) : Int) * sm c ((p + 1 : Nat) : Int) := by
    rw [e] at h2 ⊢
    exact Int.mul_le_mul_of_nonpos_right h1 h2
   omega
 match n, hw, hw0, hc, key with
 | 0, _, _, _, _ => exact Int.le_refl _
 | m + 1, hw, hw0, hc, key =>
  have a := key m (Nat.le_refl _)
  have b := hc (m + 1) (Nat.le_refl _)
  have c0 := hw0 m (by omega) (by omega)
  have := Int.mul_nonpos_of_nonneg_of_nonpos c0 b
  omega
theorem grd_best (hV : l.Valid) (hk : 0 ≤ k) (h : SrtW l Z) {F : Int → Prop} (hF : CanM l k F) : sm (fun i => ind (F i) * l.wo i) l.n ≤ sm (fun i => ind (grd l k Z l.n i) * l.wo i) l.n := by
 have hc : ∀ p : Nat, p ≤ l.n → sm (fun q => ind (F (Z q)) - ind (grd l k Z l.n (Z q))) p ≤ 0 := fun p hp => by
  have m1 := grd_max hV hk h hp (F := fun i => F i ∧ ∃ q : Int, (0 ≤ q ∧ q < p) ∧ Z q = i) (hF.sub fun i _ _ a => a.1) fun i _ _ a => a.2
  have img : ∀ f : Int → Int, sm (fun q => f (Z q)) p = sm (fun i => ind (∃ q : Int, (0 ≤ q ∧ q < (p : Int)) ∧ Z q = i) * f i) l.n := fun f => sm_img (I := Z) (n := l.n) f p (fun q q0 q1 => h.rng q0 (by omega)) fun a b a0 ab b1 => h.ne a b a0 ab (by omega)
  have e1 := img fun i => ind (F i)
  have e2 := img fun i => ind (grd l k Z l.n i)
  rw [sm_sub, e1, e2]
  have e3 : sm (fun i => ind (∃ q : Int, (0 ≤ q ∧ q < (p : Int)) ∧ Z q = i) * ind (F i)) l.n = sm (fun i => ind (F i ∧ ∃ q : Int, (0 ≤ q ∧ q < (p : Int)) ∧ Z q = i)) l.n := sm_congr fun i _ _ => by rw [Int.mul_comm]; exact ind_and.symm
  have e4 : sm (fun i => ind (∃ q : Int, (0 ≤ q ∧ q < (p : Int)) ∧ Z q = i) * ind (grd l k Z l.n i)) l.n = sm (fun i => ind (grd l k Z p i)) l.n := sm_congr fun i _ _ => by
   rw [← ind_and]
   exact ind_congr ⟨fun ⟨⟨q, hq, e⟩, hg⟩ => by rw [← e] at hg ⊢; exact grd_back h (Nat.le_refl _) hp hq.1 hq.2 hg, fun hg => ⟨grd_in hg, grd_mono hp hg⟩⟩
  rw [e3, e4]
  omega
 have a := abel (w := fun p => l.wo (Z p)) (c := fun q => ind (F (Z q)) - ind (grd l k Z l.n (Z q))) l.n (fun p p0 p1 => by
  have h9 : -(l.wo (Z p)) < -(l.wo (Z (p + 1))) ∨ (-(l.wo (Z p)) = -(l.wo (Z (p + 1))) ∧ Z p < Z (p + 1)) := h.srt p (p + 1) p0 (by omega) p1
  show l.wo (Z (p + 1)) ≤ l.wo (Z p)
  omega) (fun p p0 p1 => by
  have hz := h.rng p0 p1
  have := hV (Z p) hz.1 hz.2
  unfold Lds.Val at this; omega) hc
 have o1 := sm_ord h fun i => ind (F i) * l.wo i
 have o2 := sm_ord h fun i => ind (grd l k Z l.n i) * l.wo i
 rw [← o1, ← o2]
 have e : sm (fun p => l.wo (Z p) * (ind (F (Z p)) - ind (grd l k Z l.n (Z p)))) l.n = sm (fun p => ind (F (Z p)) * l.wo (Z p)) l.n - sm (fun p => ind (grd l k Z l.n (Z p)) * l.wo (Z p)) l.n := by
  rw [← sm_sub]
  exact sm_congr fun p _ _ => by rw [Int.mul_sub, Int.mul_comm (l.wo (Z p)) (ind (F (Z p))), Int.mul_comm (l.wo (Z p)) (ind (grd l k Z l.n (Z p)))]
 rw [e] at a
 omega
end
end Go.Proofs.YtbepolognfdkeaaGreat
