import Derived.Test.YtlldeifbfpmbaaaGreatGbG
set_option maxRecDepth 100000
namespace Go.Proofs.YtlldeifbfpmbaaaGreat
structure Pick (p : Int → Prop) (n c : Nat) (K : Int → Int) : Prop where
 inc : Rise c K
 mem : ∀ i : Int, (∃ j : Int, (0 ≤ j ∧ j < c) ∧ K j = i) ↔ (0 ≤ i ∧ i < n) ∧ p i
 sum : ∀ f : Int → Int, sm (fun j => f (K j)) c = sm (fun i => ind (p i) * f i) n
 le : c ≤ n
theorem Pick.nil (p : Int → Prop) (K : Int → Int) : Pick p 0 0 K :=
 ⟨⟨fun a b _ _ _ => by omega⟩, fun i => ⟨fun ⟨j, hj, _⟩ => by omega, fun ⟨h, _⟩ => by omega⟩, fun f => rfl, Nat.le_refl _⟩
theorem Pick.no {p : Int → Prop} {n c : Nat} {K : Int → Int} (h : Pick p n c K) (hp : ¬ p n) : Pick p (n + 1) c K :=
 ⟨h.inc, fun i => by
  rw [h.mem i]
  constructor
  ·rintro ⟨a, b⟩; exact ⟨by omega, b⟩
  ·rintro ⟨a, b⟩
   by_cases e : i = n
   ·rw [e] at b; exact absurd b hp
   ·exact ⟨by omega, b⟩, fun f => by
  rw [show ((n + 1 : Nat) : Int) = (n : Int) + 1 by omega, sm_succ _ (by omega), ind_f hp, h.sum f]; omega, Nat.le_succ_of_le h.le⟩
theorem Pick.yes {p : Int → Prop} {n c : Nat} {K : Int → Int} (h : Pick p n c K) (hp : p n) : Pick p (n + 1) (c + 1) (upd K c n) :=
 ⟨⟨fun a b a0 ab b1 => by
  have hk : ∀ j : Int, 0 ≤ j → j < c → K j < n := fun j j0 j1 => ((h.mem (K j)).1 ⟨j, ⟨j0, j1⟩, rfl⟩).1.2
  by_cases e : b = c
  ·rw [e, upd_same, upd_ne _ _ (by omega)]; exact hk a a0 (by omega)
  ·rw [upd_ne _ _ e, upd_ne _ _ (by omega)]; exact h.inc.inc a b a0 ab (by omega)⟩, fun i => by
  constructor
  ·rintro ⟨j, hj, e⟩
   by_cases ej : j = c
   ·rw [ej, upd_same] at e; rw [← e]; exact ⟨by omega, hp⟩
   ·rw [upd_ne _ _ ej] at e
    have := (h.mem i).1 ⟨j, by omega, e⟩
    exact ⟨by omega, this.2⟩
  ·rintro ⟨a, b⟩
   by_cases e : i = n
   ·exact ⟨c, by omega, by rw [upd_same, e]⟩
   ·obtain ⟨j, hj, ej⟩ := (h.mem i).2 ⟨by omega, b⟩
    exact ⟨j, by omega, by rw [upd_ne _ _ (by omega)]; exact ej⟩, fun f => by
  rw [show ((n + 1 : Nat) : Int) = (n : Int) + 1 by omega, show ((c + 1 : Nat) : Int) = (c : Int) + 1 by omega, sm_succ _ (by omega), sm_succ _ (by omega), ind_t hp, upd_same, ← h.sum f, sm_congr (g := fun j => f (K j)) fun j j0 j1 => by rw [upd_ne _ _ (by omega)]]
  omega, by have := h.le; omega⟩
end Go.Proofs.YtlldeifbfpmbaaaGreat
set_option maxRecDepth 100000
namespace Go.Proofs.YtlldeifbfpmbaaaGreat
def lex (f : Int → Int) (a b : Int) : Prop := f a < f b ∨ (f a = f b ∧ a < b)
theorem lex_irr {f : Int → Int} {a : Int} (h1 : lex f a a) : False := by unfold lex at *; omega
def SameV (N : Nat) (g Y : Int → Int) : Prop := ∀ v : Int, (∃ a : Int, (0 ≤ a ∧ a < N) ∧ g a = v) ↔ ∃ a : Int, (0 ≤ a ∧ a < N) ∧ Y a = v
structure SrtS (f Y : Int → Int) (N : Nat) (g : Int → Int) (i : Int) : Prop where
 same : SameV N g Y
 low : ∀ a b : Int, 0 ≤ a → a < i → i ≤ b → b < N → g a < g b
 rest : ∀ a : Int, i ≤ a → a < N → g a = Y a
 srt : ∀ a b : Int, 0 ≤ a → a < b → b < i → lex f (g a) (g b)
structure InsS (f Y : Int → Int) (N : Nat) (g : Int → Int) (i j : Int) : Prop where
 rng : 0 ≤ j ∧ j ≤ i ∧ i < N
 same : SameV N g Y
 low : ∀ a b : Int, 0 ≤ a → a ≤ i → i < b → b < N → g a < g b
 rest : ∀ a : Int, i < a → a < N → g a = Y a
 vlt : ∀ a : Int, 0 ≤ a → a ≤ i → a ≠ j → g a < g j
 srt : ∀ a b : Int, 0 ≤ a → a < b → b ≤ i → a ≠ j → b ≠ j → lex f (g a) (g b)
 right : ∀ b : Int, j < b → b ≤ i → f (g j) < f (g b)
section
variable {f Y g : Int → Int} {N : Nat} {i j : Int}
theorem SrtS.init (hg : ∀ a : Int, 0 ≤ a → a < N → g a = Y a) (hY : ∀ a b : Int, 0 ≤ a → a < b → b < N → Y a < Y b) : SrtS f Y N g 1 := by
 refine ⟨fun v => ⟨fun ⟨a, ha, e⟩ => ⟨a, ha, by rw [← hg a ha.1 ha.2]; exact e⟩, fun ⟨a, ha, e⟩ => ⟨a, ha, by rw [hg a ha.1 ha.2]; exact e⟩⟩, fun a b a0 a1 b0 b1 => ?_, fun a a0 a1 => hg a (by omega) a1, fun a b a0 ab b1 => by omega⟩
 rw [hg a a0 (by omega), hg b (by omega) b1]
 exact hY a b a0 (by omega) b1
theorem SrtS.ins (h : SrtS f Y N g i) (hY : ∀ a b : Int, 0 ≤ a → a < b → b < N → Y a < Y b) (i0 : 0 ≤ i) (i1 : i < N) : InsS f Y N g i i := by
 refine ⟨by omega, h.same, fun a b a0 a1 b0 b1 => ?_, fun a a0 a1 => h.rest a (by omega) a1, fun a a0 a1 hne => h.low a i a0 (by omega) (Int.le_refl _) i1, fun a b a0 ab b1 h1 h2 => h.srt a b a0 ab (by omega), fun b h1 h2 => by omega⟩
 by_cases c : a = i
 ·rw [h.rest a (by omega) (by omega), h.rest b (by omega) b1]; exact hY a b a0 (by omega) b1
 ·exact h.low a b a0 (by omega) (by omega) b1
theorem InsS.done (h : InsS f Y N g i j) (hd : ¬ (0 < j ∧ f (g j) < f (g (j - 1)))) : SrtS f Y N g (i + 1) := by
 have hr := h.rng
 refine ⟨h.same, fun a b a0 a1 b0 b1 => h.low a b a0 (by omega) (by omega) b1, fun a a0 a1 => h.rest a (by omega) a1, fun a b a0 ab b1 => ?_⟩
 by_cases ca : a = j
 ·rw [ca] at ab ⊢
  exact .inl (h.right b ab (by omega))
 ·by_cases cb : b = j
  ·rw [cb] at ab ⊢
   have hv := h.vlt a a0 (by omega) ca
   have hk : f (g (j - 1)) ≤ f (g j) := by omega
   by_cases c1 : a = j - 1
   ·rw [c1] at hv ⊢
    unfold lex; omega
   ·have hs := h.srt a (j - 1) a0 (by omega) (by omega) ca (by omega)
    unfold lex at hs ⊢; omega
  ·exact h.srt a b a0 ab (by omega) ca cb
theorem InsS.step (h : InsS f Y N g i j) (hj : 0 < j) (hd : f (g j) < f (g (j - 1))) : InsS f Y N (upd (upd g j (g (j - 1))) (j - 1) (g j)) i (j - 1) := by
 have hr := h.rng
 obtain ⟨q, hq⟩ : ∃ q, q = upd (upd g j (g (j - 1))) (j - 1) (g j) := ⟨_, rfl⟩
 have e1 : q (j - 1) = g j := by rw [hq, upd_same]
 have e2 : q j = g (j - 1) := by rw [hq, upd_ne _ _ (by omega), upd_same]
 have e3 : ∀ a : Int, a ≠ j → a ≠ j - 1 → q a = g a := fun a h1 h2 => by rw [hq, upd_ne _ _ h2, upd_ne _ _ h1]
 rw [← hq]
 refine ⟨by omega, fun v => ?_, fun a b a0 a1 b0 b1 => ?_, fun a a0 a1 => by rw [e3 a (by omega) (by omega)]; exact h.rest a a0 a1, fun a a0 a1 hne => ?_, fun a b a0 ab b1 h1 h2 => ?_, fun b h1 h2 => ?_⟩
 ·rw [← h.same v]
  constructor
  ·rintro ⟨a, ha, e⟩
   by_cases c1 : a = j
   ·exact ⟨j - 1, by omega, by rw [← e2, ← c1, e]⟩
   ·by_cases c2 : a = j - 1
    ·exact ⟨j, by omega, by rw [← e1, ← c2, e]⟩
    ·exact ⟨a, ha, by rw [← e3 a c1 c2, e]⟩
  ·rintro ⟨a, ha, e⟩
   by_cases c1 : a = j
   ·exact ⟨j - 1, by omega, by rw [e1, ← c1, e]⟩
   ·by_cases c2 : a = j - 1
    ·exact ⟨j, by omega, by rw [e2, ← c2, e]⟩
    ·exact ⟨a, ha, by rw [e3 a c1 c2, e]⟩
 ·rw [e3 b (by omega) (by omega)]
  by_cases c1 : a = j
  ·rw [c1, e2]; exact h.low (j - 1) b (by omega) (by omega) b0 b1
  ·by_cases c2 : a = j - 1
   ·rw [c2, e1]; exact h.low j b (by omega) (by omega) b0 b1
   ·rw [e3 a c1 c2]; exact h.low a b a0 a1 b0 b1
 ·rw [e1]
  by_cases c1 : a = j
  ·rw [c1, e2]; exact h.vlt (j - 1) (by omega) (by omega) (by omega)
  ·rw [e3 a c1 hne]; exact h.vlt a a0 a1 c1
 ·by_cases c1 : a = j
  ·rw [c1, e2, e3 b (by omega) h2]
   exact h.srt (j - 1) b (by omega) (by omega) b1 (by omega) (by omega)
  ·by_cases c2 : b = j
   ·rw [c2, e2, e3 a c1 h1]
    exact h.srt a (j - 1) a0 (by omega) (by omega) c1 (by omega)
   ·rw [e3 a c1 h1, e3 b c2 h2]
    exact h.srt a b a0 ab b1 c1 c2
 ·rw [e1]
  by_cases c1 : b = j
  ·rw [c1, e2]; exact hd
  ·rw [e3 b c1 (by omega)]; exact h.right b (by omega) h2
end
end Go.Proofs.YtlldeifbfpmbaaaGreat
