import Derived.Test.YtbepolognfdkeaaGaT
set_option maxRecDepth 100000
namespace Go.Proofs.Ytbepolognfdkeaa
noncomputable def ins7 (l : Lds) (S : Int → Prop) (u v : Int) : Int := sm (fun j => ind (S j ∧ u ≤ l.r j ∧ l.d j ≤ v)) l.n
def Viol (l : Lds) (k : Int) (S : Int → Prop) : Prop := ∃ u v : Int, u ≤ v ∧ k * (v - u) < ins7 l S u v
section
variable {l : Lds} {k t m : Int} {S : Int → Prop} {out : Int → Int}
theorem sm_hours (h : Int → Int) (P : Int → Prop) {u W : Int} (hW : 0 ≤ W) (hr : ∀ j : Int, 0 ≤ j → j < l.n → P j → u ≤ h j ∧ h j < u + W) : sm (fun s => sm (fun j => ind (P j ∧ h j = u + s)) l.n) W = sm (fun j => ind (P j)) l.n := by
 rw [sm_swap]
 refine sm_congr fun j j0 j1 => ?_
 by_cases c : P j
 ·have a := hr j j0 j1 c
  rw [ind_t c, sm_one1 (a := h j - u) (by omega) (by omega) fun s _ _ hne => ind_f fun e => hne (by omega), ind_t ⟨c, by omega⟩]
 ·rw [ind_f c]
  exact sm_zeroG fun s _ _ => ind_f fun e => c e.1
theorem ins7_le (hc : CanM l k S) {u v : Int} (huv : u ≤ v) : ins7 l S u v ≤ k * (v - u) := by
 obtain ⟨h, h1, h2⟩ := hc
 have e := sm_hours (l := l) h (fun j => S j ∧ u ≤ l.r j ∧ l.d j ≤ v) (u := u) (W := v - u) (by omega) fun j j0 j1 hP => by
  have := h1 j j0 j1 hP.1; omega
 unfold ins7
 rw [← e, Int.mul_comm]
 refine sm_bound k (by omega) fun s s0 s1 => Int.le_trans (sm_le fun j j0 j1 => ?_) (h2 (u + s))
 by_cases c : (S j ∧ u ≤ l.r j ∧ l.d j ≤ v) ∧ h j = u + s
 ·rw [ind_t c, ind_t ⟨c.1.1, c.2⟩]; exact Int.le_refl _
 ·rw [ind_f c]; exact (ind_rng _).1
theorem EdI.viol (h : EdI l k S t m out) (hV : l.Valid) {b : Int} (b0 : 0 ≤ b) (b1 : b < l.n) (hS : S b) (hb : out b = -1) (hd : l.d b ≤ t) : Viol l k S := by
 have hvb := hV b b0 b1
 unfold Lds.Val at hvb
 let P : Int → Prop := fun u => ∀ s : Int, u ≤ s → s < l.d b → cntE l S out s = k ∧ ∀ j : Int, 0 ≤ j → j < l.n → S j → out j = s → l.d j ≤ l.d b
 have hP0 : P (l.r b) := fun s s0 s1 => by
  obtain ⟨a1, a2⟩ := h.full b s b0 b1 hS (by omega) s0 (by omega) (.inl hb)
  exact ⟨a1, fun j j0 j1 hSj e => by have := a2 j j0 j1 hSj e; unfold lex at this; omega⟩
 have hex : ∀ n : Nat, P n → ∃ u : Int, 0 ≤ u ∧ u ≤ n ∧ P u ∧ (u = 0 ∨ ¬ P (u - 1)) := by
  intro n
  induction n with
  | zero => intro hp; exact ⟨0, Int.le_refl 0, by omega, hp, .inl rfl⟩
  | succ n ih =>
   intro hp
   by_cases c : P n
   ·obtain ⟨u, u0, u1, u2, u3⟩ := ih c
    exact ⟨u, u0, by omega, u2, u3⟩
   ·exact ⟨((n + 1 : Nat) : Int), by omega, Int.le_refl _, hp, .inr (by rw [show ((n + 1 : Nat) : Int) - 1 = n by omega]; exact c)⟩
 obtain ⟨u, u0, u1, hPu, hun⟩ := hex (l.r b).toNat (by rw [Int.toNat_of_nonneg hvb.1]; exact hP0)
 have hQr : ∀ j : Int, 0 ≤ j → j < l.n → S j → l.d j ≤ l.d b → (out j = -1 ∨ u ≤ out j) → u ≤ l.r j := fun j j0 j1 hSj hdj hoj => by
  refine Classical.byContradiction fun hn => ?_
  have hrj := (hV j j0 j1).1
  have hu0 : u ≠ 0 := by omega
  refine hun.resolve_left hu0 fun s s0 s1 => ?_
  by_cases c : s = u - 1
  ·obtain ⟨a1, a2⟩ := h.full j s j0 j1 hSj (by omega) (by omega) (by omega) (hoj.imp id fun a => by omega)
   exact ⟨a1, fun q q0 q1 hSq e => by have := a2 q q0 q1 hSq e; unfold lex at this; omega⟩
  ·exact hPu s (by omega) s1
 refine ⟨u, l.d b, by omega, ?_⟩
 have e := sm_hours (l := l) out (fun j => S j ∧ u ≤ out j ∧ out j < l.d b) (u := u) (W := l.d b - u) (by omega) fun j _ _ hP => by omega
 have e2 : sm (fun s => sm (fun j => ind ((S j ∧ u ≤ out j ∧ out j < l.d b) ∧ out j = u + s)) l.n) (l.d b - u) = (l.d b - u) * k := by
  rw [sm_congr (g := fun _ => k) fun s s0 s1 => ?_, sm_const _ (by omega)]
  rw [← (hPu (u + s) (by omega) (by omega)).1]
  exact sm_congr fun j _ _ => ind_congr ⟨fun q => ⟨q.1.1, q.2⟩, fun q => ⟨⟨q.1, by omega, by omega⟩, q.2⟩⟩
 rw [e2] at e
 have h4 := sm_pos (f := fun j => ind (S j ∧ u ≤ l.r j ∧ l.d j ≤ l.d b) - ind (S j ∧ u ≤ out j ∧ out j < l.d b)) (k := l.n) (fun j j0 j1 => by
  by_cases q : S j ∧ u ≤ out j ∧ out j < l.d b
  ·have hdj := (hPu (out j) q.2.1 q.2.2).2 j j0 j1 q.1 rfl
   rw [ind_t q, ind_t ⟨q.1, hQr j j0 j1 q.1 hdj (.inr q.2.1), hdj⟩]; decide
  ·rw [ind_f q]; have := (ind_rng (S j ∧ u ≤ l.r j ∧ l.d j ≤ l.d b)).1; omega) b b0 b1
 rw [sm_sub] at h4
 have h5 : ind (S b ∧ u ≤ l.r b ∧ l.d b ≤ l.d b) - ind (S b ∧ u ≤ out b ∧ out b < l.d b) = 1 := by
  rw [ind_t ⟨hS, hQr b b0 b1 hS (Int.le_refl _) (.inl hb), Int.le_refl _⟩, ind_f fun q => by omega]; rfl
 unfold ins7
 rw [Int.mul_comm]
 omega
theorem lex_min (f : Int → Int) (P : Int → Prop) : ∀ n : Nat, (∃ i : Int, (0 ≤ i ∧ i < n) ∧ P i) → ∃ b : Int, (0 ≤ b ∧ b < n) ∧ P b ∧ ∀ i : Int, 0 ≤ i → i < n → P i → i ≠ b → lex f b i
 | 0, ⟨i, hi, _⟩ => by omega
 | n + 1, ⟨i, hi, hP⟩ => by
  by_cases c : ∃ i : Int, (0 ≤ i ∧ i < n) ∧ P i
  ·obtain ⟨b, hb, hPb, hl⟩ := lex_min f P n c
   by_cases c2 : P n ∧ f n < f b
   ·refine ⟨n, by omega, c2.1, fun i i0 i1 hPi hne => ?_⟩
    by_cases e : i = b
    ·rw [e]; exact .inl c2.2
    ·have := hl i i0 (by omega) hPi e
     unfold lex at this ⊢; omega
   ·refine ⟨b, by omega, hPb, fun i i0 i1 hPi hne => ?_⟩
    by_cases e : i = n
    ·rw [e] at hPi ⊢
     have : ¬ f n < f b := fun h => c2 ⟨hPi, h⟩
     unfold lex; omega
    ·exact hl i i0 (by omega) hPi hne
  ·have : i = n := Classical.byContradiction fun hn => c ⟨i, by omega, hP⟩
   rw [this] at hP
   refine ⟨n, by omega, hP, fun a a0 a1 ha hne => absurd ⟨a, by omega, ha⟩ c⟩
theorem EdI.total (hV : l.Valid) (t0 : 0 ≤ t) : ∀ (N : Nat) (m : Int) (out : Int → Int), EdI l k S t m out → k - m ≤ N → (∃ out', Ed l k S (t + 1) out') ∨ Viol l k S
 | 0, m, out, h, hN => .inl ⟨out, h.finish (.inl (by have := h.cnt.2; omega))⟩
 | N + 1, m, out, h, hN => by
  by_cases c : ∃ i : Int, (0 ≤ i ∧ i < l.n) ∧ S i ∧ out i = -1 ∧ l.r i ≤ t
  ·by_cases cm : m = k
   ·exact .inl ⟨out, h.finish (.inl cm)⟩
   ·obtain ⟨b, hb, ⟨hS, ho, hr⟩, hl⟩ := lex_min l.d (fun i => S i ∧ out i = -1 ∧ l.r i ≤ t) l.n c
    by_cases cd : l.d b ≤ t
    ·exact .inr (h.viol hV hb.1 hb.2 hS ho cd)
    ·have hm := h.cnt.2
     exact EdI.total hV t0 N (m + 1) (upd out b t) (h.pick hb.1 hb.2 hS ho t0 hr (by omega) (by omega) fun i i0 i1 hSi hoi hri hne => hl i i0 i1 ⟨hSi, hoi, hri⟩ hne) (by omega)
  ·exact .inl ⟨out, h.finish (.inr fun i i0 i1 hS ho hr => c ⟨i, ⟨i0, i1⟩, hS, ho, hr⟩)⟩
theorem Ed.total (hV : l.Valid) (hk : 0 ≤ k) : ∀ (N : Nat) (t : Int) (out : Int → Int), 0 ≤ t → Ed l k S t out → 1000000 - t ≤ N → CanM l k S ∨ Viol l k S
 | 0, t, out, t0, h, hN => by
  by_cases c : ∃ i : Int, (0 ≤ i ∧ i < l.n) ∧ S i ∧ out i = -1
  ·obtain ⟨i, hi, hS, ho⟩ := c
   have hv := hV i hi.1 hi.2
   unfold Lds.Val at hv
   exact .inr ((h.start t0 hk).viol hV hi.1 hi.2 hS ho (by omega))
  ·exact .inl ((h.final hV fun i i0 i1 hS ho => c ⟨i, ⟨i0, i1⟩, hS, ho⟩).can hV hk)
 | N + 1, t, out, t0, h, hN => by
  rcases EdI.total hV t0 k.toNat 0 out (h.start t0 hk) (by omega) with ⟨out', h'⟩ | h'
  ·exact Ed.total hV hk N (t + 1) out' (by omega) h' (by omega)
  ·exact .inr h'
theorem can_or_viol (hV : l.Valid) (hk : 0 ≤ k) (S : Int → Prop) : CanM l k S ∨ Viol l k S := Ed.total hV hk 1000000 0 _ (Int.le_refl 0) (Ed.init hk) (by omega)
theorem canM_max {A F : Int → Prop} (hk : 0 ≤ k) (hA : CanM l k A) (hF : CanM l k F) (hr0 : ∀ i : Int, 0 ≤ i → i < l.n → 0 ≤ l.r i ∧ l.d i ≤ 1000000) (hT : ∀ i : Int, 0 ≤ i → i < l.n → F i → A i ∨ ∃ u v : Int, u ≤ v ∧ (u ≤ l.r i ∧ l.d i ≤ v) ∧ k * (v - u) ≤ ins7 l A u v) : sm (fun i => ind (F i)) l.n ≤ sm (fun i => ind (A i)) l.n := by
 obtain ⟨h, h1, h2⟩ := hA
 obtain ⟨g, g1, g2⟩ := hF
 let Q : Int → Prop := fun i => ∃ u v : Int, u ≤ v ∧ (u ≤ l.r i ∧ l.d i ≤ v) ∧ k * (v - u) ≤ ins7 l A u v
 let Y : Int → Prop := fun t => ∃ u v : Int, (u ≤ t ∧ t < v) ∧ k * (v - u) ≤ ins7 l A u v
 have hfull : ∀ t : Int, Y t → k ≤ sm (fun j => ind ((A j ∧ Q j) ∧ h j = t)) l.n := fun t ⟨u, v, huv, hb⟩ => by
  refine Classical.byContradiction fun hn => ?_
  have e := sm_hours (l := l) h (fun j => A j ∧ u ≤ l.r j ∧ l.d j ≤ v) (u := u) (W := v - u) (by omega) fun j j0 j1 hP => by
   have := h1 j j0 j1 hP.1; omega
  have hle : ∀ s : Int, 0 ≤ s → s < v - u → sm (fun j => ind ((A j ∧ u ≤ l.r j ∧ l.d j ≤ v) ∧ h j = u + s)) l.n ≤ k := fun s _ _ => Int.le_trans (sm_le fun j j0 j1 => by
   by_cases c : (A j ∧ u ≤ l.r j ∧ l.d j ≤ v) ∧ h j = u + s
   ·rw [ind_t c, ind_t ⟨c.1.1, c.2⟩]; exact Int.le_refl _
   ·rw [ind_f c]; exact (ind_rng _).1) (h2 (u + s))
  have h5 := sm_pos (f := fun s => k - sm (fun j => ind ((A j ∧ u ≤ l.r j ∧ l.d j ≤ v) ∧ h j = u + s)) l.n) (k := v - u) (fun s s0 s1 => by have := hle s s0 s1; omega) (t - u) (by omega) (by omega)
  rw [sm_sub, sm_const _ (show 0 ≤ v - u by omega), e] at h5
  have h6 : sm (fun j => ind ((A j ∧ u ≤ l.r j ∧ l.d j ≤ v) ∧ h j = u + (t - u))) l.n ≤ sm (fun j => ind ((A j ∧ Q j) ∧ h j = t)) l.n := sm_le fun j j0 j1 => by
   by_cases c : (A j ∧ u ≤ l.r j ∧ l.d j ≤ v) ∧ h j = u + (t - u)
   ·rw [ind_t c, ind_t ⟨⟨c.1.1, u, v, by omega, c.1.2, hb⟩, by omega⟩]; exact Int.le_refl _
   ·rw [ind_f c]; exact (ind_rng _).1
  have h7 : k * (v - u) ≤ sm (fun j => ind (A j ∧ u ≤ l.r j ∧ l.d j ≤ v)) l.n := hb
  rw [Int.mul_comm] at h7
  omega
 have eF := sm_hours (l := l) g (fun j => F j ∧ Q j) (u := 0) (W := 1000000) (by decide) fun j j0 j1 hP => by
  have a := g1 j j0 j1 hP.1
  have b := hr0 j j0 j1
  omega
 have eA := sm_hours (l := l) h (fun j => A j ∧ Q j) (u := 0) (W := 1000000) (by decide) fun j j0 j1 hP => by
  have a := h1 j j0 j1 hP.1
  have b := hr0 j j0 j1
  omega
 have hin : sm (fun j => ind (F j ∧ Q j)) l.n ≤ sm (fun j => ind (A j ∧ Q j)) l.n := by
  rw [← eF, ← eA]
  refine sm_le fun s s0 s1 => ?_
  by_cases c : Y (0 + s)
  ·refine Int.le_trans (Int.le_trans (sm_le fun j j0 j1 => ?_) (g2 (0 + s))) (hfull (0 + s) c)
   by_cases q : (F j ∧ Q j) ∧ g j = 0 + s
   ·rw [ind_t q, ind_t ⟨q.1.1, q.2⟩]; exact Int.le_refl _
   ·rw [ind_f q]; exact (ind_rng _).1
  ·rw [sm_zeroG fun j j0 j1 => ind_f fun q => ?_]
   ·exact sm_nonneg fun _ _ _ => (ind_rng _).1
   ·obtain ⟨u, v, huv, hw, hb⟩ := q.1.2
    have a := g1 j j0 j1 q.1.1
    exact c ⟨u, v, by omega, hb⟩
 have hout : sm (fun j => ind (F j ∧ ¬ Q j)) l.n ≤ sm (fun j => ind (A j ∧ ¬ Q j)) l.n := sm_le fun j j0 j1 => by
  by_cases c : F j ∧ ¬ Q j
  ·rcases hT j j0 j1 c.1 with a | a
   ·rw [ind_t c, ind_t ⟨a, c.2⟩]; exact Int.le_refl _
   ·exact absurd a c.2
  ·rw [ind_f c]; exact (ind_rng _).1
 have split : ∀ B : Int → Prop, sm (fun j => ind (B j)) l.n = sm (fun j => ind (B j ∧ Q j)) l.n + sm (fun j => ind (B j ∧ ¬ Q j)) l.n := fun B => by
  rw [← sm_add]
  refine sm_congr fun j _ _ => ?_
  by_cases a : B j
  ·by_cases b : Q j
   ·rw [ind_t a, ind_t ⟨a, b⟩, ind_f fun c => c.2 b]; rfl
   ·rw [ind_t a, ind_f fun c => b c.2, ind_t ⟨a, b⟩]; rfl
  ·rw [ind_f a, ind_f fun c => a c.1, ind_f fun c => a c.1]; rfl
 rw [split F, split A]
 omega
end
end Go.Proofs.Ytbepolognfdkeaa
