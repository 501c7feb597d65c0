import Derived.Test.YtbcjfjldmfljgaaGreatGaQ
set_option maxRecDepth 100000
namespace Go.Proofs.YtbcjfjldmfljgaaGreat
open Go.RowKit Go.Proofs Go.MapKept Hal
structure Bds (N : Nat) (v Z : Int → Int) : Prop where
 rng : ∀ q : Int, 0 ≤ q → q < N → 0 ≤ Z q ∧ Z q < N
 ex : ∀ i : Int, 0 ≤ i → i < N → ∃ q : Int, (0 ≤ q ∧ q < N) ∧ Z q = i
 dn : ∀ a b : Int, 0 ≤ a → a < b → b < N → v (Z b) < v (Z a)
 p1 : ∀ i : Int, 0 ≤ i → i < N → 1 ≤ v i
theorem Bds.of {N : Nat} {v Z : Int → Int} (hZ : SrtS (fun i => -(v i)) (fun i => i) N Z N) (hv : ∀ a b : Int, 0 ≤ a → a < N → 0 ≤ b → b < N → v a = v b → a = b) (h1 : ∀ i : Int, 0 ≤ i → i < N → 1 ≤ v i) : Bds N v Z := by
 have hr : ∀ q : Int, 0 ≤ q → q < N → 0 ≤ Z q ∧ Z q < N := fun q q0 q1 => by
  obtain ⟨a, ha, e⟩ := (hZ.same (Z q)).1 ⟨q, ⟨q0, q1⟩, rfl⟩
  have e' : a = Z q := e
  omega
 refine ⟨hr, fun i i0 i1 => (hZ.same i).2 ⟨i, ⟨i0, i1⟩, rfl⟩, fun a b a0 ab b1 => ?_, h1⟩
 have h := hZ.srt a b a0 ab b1
 have ra := hr a a0 (by omega)
 have rb := hr b (by omega) b1
 unfold lex at h
 dsimp only at h
 rcases h with h | ⟨h, h2⟩
 ·omega
 ·have := hv (Z a) (Z b) ra.1 ra.2 rb.1 rb.2 (by omega)
  omega
def pri (N n : Nat) (v Z : Int → Int) : Int := if n < N then v (Z n) else 0
section
variable {N n : Nat} {v Z : Int → Int}
theorem Bds.inj (h : Bds N v Z) {a b : Int} (a0 : 0 ≤ a) (a1 : a < N) (b0 : 0 ≤ b) (b1 : b < N) (e : v (Z a) = v (Z b)) : a = b := by
 rcases Int.lt_trichotomy a b with c | c | c
 ·have := h.dn a b a0 c b1; omega
 ·exact c
 ·have := h.dn b a b0 c a1; omega
theorem Bds.pos (h : Bds N v Z) : 0 ≤ pri N n v Z := by
 unfold pri
 split
 ·have := h.rng n (by omega) (by omega)
  have := h.p1 _ this.1 this.2
  omega
 ·exact Int.le_refl _
theorem Bds.win (h : Bds N v Z) {q : Int} (q0 : 0 ≤ q) (q1 : q < N) : pri N n v Z < v (Z q) ↔ q < n := by
 have hr := h.rng q q0 q1
 have hp := h.p1 _ hr.1 hr.2
 unfold pri
 by_cases c : n < N
 ·rw [if_pos c]
  constructor
  ·intro hlt
   refine Classical.byContradiction fun hn => ?_
   by_cases e : q = n
   ·rw [e] at hlt; omega
   ·have := h.dn n q (by omega) (by omega) q1; omega
  ·intro hq
   exact h.dn q n q0 hq (by omega)
 ·rw [if_neg c]
  exact ⟨fun _ => by omega, fun _ => by omega⟩
theorem Bds.above (h : Bds N v Z) {k : Nat} {I : Int → Int} (hr : ∀ q : Int, 0 ≤ q → q < k → (0 ≤ I q ∧ I q < N) ∧ pri N n v Z < v (I q)) (hi : ∀ a b : Int, 0 ≤ a → a < k → 0 ≤ b → b < k → I a = I b → a = b) : k ≤ n := by
 have hex : ∀ q : Int, ∃ x : Int, 0 ≤ q → q < k → (0 ≤ x ∧ x < n) ∧ Z x = I q := fun q => by
  by_cases c : 0 ≤ q ∧ q < k
  ·have h1 := hr q c.1 c.2
   obtain ⟨x, hx, e⟩ := h.ex (I q) h1.1.1 h1.1.2
   have := (h.win (n := n) hx.1 hx.2).1 (by rw [e]; exact h1.2)
   exact ⟨x, fun _ _ => ⟨⟨hx.1, this⟩, e⟩⟩
  ·exact ⟨0, fun a b => absurd ⟨a, b⟩ c⟩
 refine pigeonG (e := fun q => Classical.choose (hex q)) (fun q q0 q1 => (Classical.choose_spec (hex q) q0 q1).1) fun a b a0 a1 b0 b1 e => ?_
 have e1 := (Classical.choose_spec (hex a) a0 a1).2
 have e2 := (Classical.choose_spec (hex b) b0 b1).2
 have e' : Classical.choose (hex a) = Classical.choose (hex b) := e
 rw [e'] at e1
 exact hi a b a0 a1 b0 b1 (e1.symm.trans e2)
def same (N n : Nat) (v : Int → Int) : Hal := ⟨N, n, fun i _ => v i⟩
theorem same_low {p : Int → Int} {i j : Int} (j0 : 0 ≤ j) (j1 : j < n) (hw : (same N n v).wn p i j) {k : Int} (k0 : 0 ≤ k) (k1 : k < n) : p j ≤ p k := by
 have h1 := (same N n v).gn_ge p i (j := k) k0 k1
 unfold wn at hw
 have e1 : (same N n v).V i k = v i := rfl
 have e2 : (same N n v).V i j = v i := rfl
 omega
theorem same_gn {p : Int → Int} {i j x : Int} (j0 : 0 ≤ j) (j1 : j < n) (hw : (same N n v).wn p x j) (hg : 0 < (same N n v).gn p i) : (same N n v).gn p i = v i - p j := by
 have h1 := (same N n v).gn_ge p i (j := j) j0 j1
 have e1 : (same N n v).V i j = v i := rfl
 rcases (same N n v).gn_at p i with e | ⟨k, hk, e⟩
 ·omega
 ·have h2 := same_low j0 j1 hw hk.1 hk.2
  unfold wn at e
  have e2 : (same N n v).V i k = v i := rfl
  omega
theorem same_step (h : Bds N v Z) {p : Int → Int} {bn ln : Nat} {Bs Ls : Int → Int} {s : Int} {m : Int → Int} (hp : ∀ j : Int, 0 ≤ j → j < n → p j ≤ pri N n v Z) (hC : CrF (same N n v) p bn Bs ln Ls) (hG : Gvn (same N n v) p (InR Bs bn) (InR Ls ln) m) (hS : (same N n v).Stp p (InR Bs bn) (InR Ls ln) s) :
  ∀ j : Int, 0 ≤ j → j < n → up p (InR Ls ln) s j ≤ pri N n v Z := fun j j0 j1 => by
 by_cases hL : InR Ls ln j
 ·rw [up_t hL]
  have hm := hG.w j hL
  by_cases hall : ∀ k : Int, 0 ≤ k → k < n → InR Ls ln k
  ·refine Classical.byContradiction fun hn => ?_
   have hle : n ≤ ln := by
    have hex : ∀ k : Int, ∃ x : Int, 0 ≤ k → k < n → (0 ≤ x ∧ x < ln) ∧ Ls x = k := fun k => by
     by_cases c : 0 ≤ k ∧ k < n
     ·obtain ⟨x, hx, e⟩ := hall k c.1 c.2
      exact ⟨x, fun _ _ => ⟨hx, e⟩⟩
     ·exact ⟨0, fun a b => absurd ⟨a, b⟩ c⟩
    refine pigeonG (e := fun k => Classical.choose (hex k)) (fun k k0 k1 => (Classical.choose_spec (hex k) k0 k1).1) fun a b a0 a1 b0 b1 e => ?_
    have e1 := (Classical.choose_spec (hex a) a0 a1).2
    have e2 := (Classical.choose_spec (hex b) b0 b1).2
    have e' : Classical.choose (hex a) = Classical.choose (hex b) := e
    rw [e'] at e1
    exact e1.symm.trans e2
   have hb := h.above (n := n) (k := bn) (I := Bs) (fun q q0 q1 => by
    have hbr := hC.c.br (Bs q) ⟨q, ⟨q0, q1⟩, rfl⟩
    have hg := hS.g (Bs q) ⟨q, ⟨q0, q1⟩, rfl⟩
    rw [same_gn j0 j1 hm.2 hbr.2] at hg
    exact ⟨hbr.1, by omega⟩) (fun a b a0 a1 b0 b1 e => rise_inj hC.b a0 a1 b0 b1 e)
   have := hC.n
   omega
  ·obtain ⟨k, hk⟩ := Classical.not_forall.1 hall
   obtain ⟨k0, hk⟩ := Classical.not_imp.1 hk
   obtain ⟨k1, hk⟩ := Classical.not_imp.1 hk
   have ho := hS.o (m j) k hm.1 k0 k1 hk
   have hw := hm.2
   unfold wn at hw
   have e1 : (same N n v).V (m j) k = v (m j) := rfl
   have e2 : (same N n v).V (m j) j = v (m j) := rfl
   have := hp k k0 k1
   omega
 ·rw [up_f hL]; exact hp j j0 j1
theorem same_price (h : Bds N v Z) {p : Int → Int} (hp : ∀ j : Int, 0 ≤ j → j < n → p j ≤ pri N n v Z) (hp0 : ∀ j : Int, 0 ≤ j → j < n → 0 ≤ p j) (hN : NoC (same N n v) p) : ∀ j : Int, 0 ≤ j → j < n → p j = pri N n v Z := fun j j0 j1 => by
 refine Classical.byContradiction fun hne => ?_
 have hlt : p j < pri N n v Z := by have := hp j j0 j1; omega
 have hj := hp0 j j0 j1
 have hnN : n < N := by
  refine Classical.byContradiction fun hc => ?_
  unfold pri at hlt
  rw [if_neg hc] at hlt
  omega
 have hP : pri N n v Z = v (Z n) := by unfold pri; rw [if_pos hnN]
 obtain ⟨of1, hm⟩ := hN
 have heag : ∀ q : Int, 0 ≤ q → q < ((n + 1 : Nat) : Int) → 0 < (same N n v).gn p (Z q) := fun q q0 q1 => by
  have h1 := (same N n v).gn_ge p (Z q) (j := j) j0 j1
  have e1 : (same N n v).V (Z q) j = v (Z q) := rfl
  have h2 : v (Z n) ≤ v (Z q) := by
   by_cases e : q = n
   ·rw [e]; exact Int.le_refl _
   ·have := h.dn q n q0 (by omega) (by omega); omega
  omega
 have hex : ∀ q : Int, ∃ b : Int, 0 ≤ q → q < ((n + 1 : Nat) : Int) → (0 ≤ b ∧ b < n) ∧ of1 b = Z q := fun q => by
  by_cases c : 0 ≤ q ∧ q < ((n + 1 : Nat) : Int)
  ·have hr := h.rng q c.1 (by omega)
   obtain ⟨b, hb, e⟩ := hm.cov (Z q) hr.1 ⟨hr, heag q c.1 c.2⟩
   exact ⟨b, fun _ _ => ⟨hb, e⟩⟩
  ·exact ⟨0, fun a b => absurd ⟨a, b⟩ c⟩
 have := pigeonG (n := n + 1) (m := n) (e := fun q => Classical.choose (hex q)) (fun q q0 q1 => (Classical.choose_spec (hex q) q0 q1).1) fun a b a0 a1 b0 b1 e => by
  have e1 := (Classical.choose_spec (hex a) a0 a1).2
  have e2 := (Classical.choose_spec (hex b) b0 b1).2
  have e' : Classical.choose (hex a) = Classical.choose (hex b) := e
  rw [e'] at e1
  exact h.inj a0 (by omega) b0 (by omega) (congrArg v (e1.symm.trans e2))
 omega
theorem same_housed (h : Bds N v Z) (n1 : 1 ≤ n) {p a : Int → Int} (hp : ∀ j : Int, 0 ≤ j → j < n → p j = pri N n v Z) (hB : (same N n v).Bal p a) {i : Int} (i0 : 0 ≤ i) (i1 : i < N) : 0 ≤ a i ↔ pri N n v Z < v i := by
 have heag : ∀ x : Int, 0 ≤ x → x < N → pri N n v Z < v x → 0 ≤ a x := fun x x0 x1 hx => by
  have h1 := (same N n v).gn_ge p x (j := 0) (Int.le_refl _) (by show (0 : Int) < n; omega)
  have e1 : (same N n v).V x 0 = v x := rfl
  have h2 := hp 0 (Int.le_refl _) (by omega)
  rcases hB.rng x x0 x1 with e | e
  ·have := hB.no_ x x0 x1 e; omega
  ·exact e.1
 refine ⟨fun ha => ?_, heag i i0 i1⟩
 refine Classical.byContradiction fun hn => ?_
 have hi := h.p1 i i0 i1
 have hnN : n < N := by
  refine Classical.byContradiction fun hc => ?_
  unfold pri at hn
  rw [if_neg hc] at hn
  omega
 have hI : ∀ q : Int, 0 ≤ q → q < n → (0 ≤ Z q ∧ Z q < N) ∧ pri N n v Z < v (Z q) := fun q q0 q1 => ⟨h.rng q q0 (by omega), (h.win q0 (by omega)).2 q1⟩
 have hg : ∀ q : Int, 0 ≤ q → q < ((n + 1 : Nat) : Int) → (0 ≤ (if q < n then Z q else i) ∧ (if q < n then Z q else i) < N) ∧ 0 ≤ a (if q < n then Z q else i) := fun q q0 q1 => by
  by_cases c : q < n
  ·rw [if_pos c]
   have := hI q q0 c
   exact ⟨this.1, heag _ this.1.1 this.1.2 this.2⟩
  ·rw [if_neg c]; exact ⟨⟨i0, i1⟩, ha⟩
 have := pigeonG (n := n + 1) (m := n) (e := fun q => a (if q < n then Z q else i)) (fun q q0 q1 => by
  have h1 := hg q q0 q1
  exact (hB.rng _ h1.1.1 h1.1.2).resolve_left (by omega)) fun x y x0 x1 y0 y1 e => by
  have h1 := hg x x0 x1
  have h2 := hg y y0 y1
  have h3 := hB.inj _ _ h1.1.1 h1.1.2 h2.1.1 h2.1.2 h1.2 e
  by_cases c : x < n <;> by_cases d : y < n
  ·rw [if_pos c, if_pos d] at h3
   exact h.inj x0 (by omega) y0 (by omega) (congrArg v h3)
  ·rw [if_pos c, if_neg d] at h3
   have := (hI x x0 c).2
   rw [h3] at this
   omega
  ·rw [if_neg c, if_pos d] at h3
   have := (hI y y0 d).2
   rw [← h3] at this
   omega
  ·omega
 omega
end
end Go.Proofs.YtbcjfjldmfljgaaGreat
