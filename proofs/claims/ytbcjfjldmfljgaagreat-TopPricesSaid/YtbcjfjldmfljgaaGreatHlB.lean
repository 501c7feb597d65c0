import Derived.Test.YtbcjfjldmfljgaaGreatHlA
set_option maxRecDepth 100000
namespace Go.Proofs.YtbcjfjldmfljgaaGreat
open Go.RowKit Go.Proofs
namespace Hal
def Cov (h : Hal) (p : Int → Int) : Prop := ∃ τ : Int → Int, (∀ j : Int, 0 ≤ j → j < h.nl → 0 < p j → (0 ≤ τ j ∧ τ j < h.nb) ∧ h.wn p (τ j) j) ∧ ∀ j k : Int, 0 ≤ j → j < h.nl → 0 < p j → 0 ≤ k → k < h.nl → 0 < p k → τ j = τ k → j = k
theorem Cov.init (h : Hal) : h.Cov (fun _ => 0) := ⟨fun _ => 0, fun j _ _ hj => absurd hj (Int.lt_irrefl 0), fun j k _ _ hj => absurd hj (Int.lt_irrefl 0)⟩
noncomputable def up (p : Int → Int) (L : Int → Prop) (s : Int) : Int → Int := fun j => @ite _ (L j) (Classical.propDecidable _) (p j + s) (p j)
theorem up_t {p : Int → Int} {L : Int → Prop} {s j : Int} (h : L j) : up p L s j = p j + s := by unfold up; rw [if_pos h]
theorem up_f {p : Int → Int} {L : Int → Prop} {s j : Int} (h : ¬ L j) : up p L s j = p j := by unfold up; rw [if_neg h]
structure Crd (h : Hal) (p : Int → Int) (B L : Int → Prop) : Prop where
 br : ∀ i : Int, B i → (0 ≤ i ∧ i < h.nb) ∧ 0 < h.gn p i
 lr : ∀ j : Int, L j → 0 ≤ j ∧ j < h.nl
 wl : ∀ i j : Int, B i → 0 ≤ j → j < h.nl → h.wn p i j → L j
structure Stp (h : Hal) (p : Int → Int) (B L : Int → Prop) (s : Int) : Prop where
 s1 : 1 ≤ s
 g : ∀ i : Int, B i → s ≤ h.gn p i
 o : ∀ i j : Int, B i → 0 ≤ j → j < h.nl → ¬ L j → s ≤ h.gn p i - (h.V i j - p j)
section
variable {h : Hal} {p : Int → Int} {B L : Int → Prop} {s : Int}
theorem gn_in (hC : h.Crd p B L) (hS : h.Stp p B L s) {i : Int} (hi : B i) : h.gn (up p L s) i = h.gn p i - s := by
 have hg := hC.br i hi
 have h1 := hS.g i hi
 refine gnN_uniq (by omega) (fun j j0 j1 => ?_) (.inr ?_)
 ·have h2 := h.gn_ge p i j0 j1
  by_cases c : L j
  ·show h.V i j - up p L s j ≤ _; rw [up_t c]; omega
  ·have := hS.o i j hi j0 j1 c
   show h.V i j - up p L s j ≤ _; rw [up_f c]; omega
 ·rcases h.gn_at p i with e | ⟨j, hj, e⟩
  ·omega
  ·have hL := hC.wl i j hi hj.1 hj.2 e
   unfold wn at e
   exact ⟨j, hj, by show h.V i j - up p L s j = _; rw [up_t hL]; omega⟩
theorem wn_in (hC : h.Crd p B L) (hS : h.Stp p B L s) {i j : Int} (hi : B i) (j0 : 0 ≤ j) (j1 : j < h.nl) (hw : h.wn p i j) : h.wn (up p L s) i j := by
 have hL := hC.wl i j hi j0 j1 hw
 unfold wn at hw ⊢
 rw [gn_in hC hS hi, up_t hL]
 omega
theorem wn_out (hS : h.Stp p B L s) {i j : Int} (j0 : 0 ≤ j) (j1 : j < h.nl) (hj : ¬ L j) (hw : h.wn p i j) : h.wn (up p L s) i j := by
 have hs := hS.s1
 unfold wn at hw ⊢
 rw [up_f hj, hw]
 refine (gnN_uniq (h.gn_nn p i) (fun k k0 k1 => ?_) (.inr ⟨j, ⟨j0, j1⟩, by show h.V i j - up p L s j = _; rw [up_f hj]; exact hw⟩)).symm
 have h2 := h.gn_ge p i k0 k1
 by_cases c : L k
 ·show h.V i k - up p L s k ≤ _; rw [up_t c]; omega
 ·show h.V i k - up p L s k ≤ _; rw [up_f c]; exact h2
theorem Cov.up (hc : h.Cov p) (hC : h.Crd p B L) (hS : h.Stp p B L s) {m : Int → Int} (hm : ∀ j : Int, L j → B (m j) ∧ h.wn p (m j) j) (hi : ∀ j k : Int, L j → L k → m j = m k → j = k) : h.Cov (up p L s) := by
 classical
 obtain ⟨τ, h1, h2⟩ := hc
 have hp : ∀ j : Int, ¬ L j → 0 < Hal.up p L s j → 0 < p j := fun j hj hq => by rw [up_f hj] at hq; exact hq
 refine ⟨fun j => if L j then m j else τ j, fun j j0 j1 hj => ?_, fun j k j0 j1 hj k0 k1 hk e => ?_⟩
 ·by_cases c : L j
  ·simp only [if_pos c]
   have := hm j c
   exact ⟨(hC.br _ this.1).1, wn_in hC hS this.1 j0 j1 this.2⟩
  ·simp only [if_neg c]
   have := h1 j j0 j1 (hp j c hj)
   exact ⟨this.1, wn_out hS j0 j1 c this.2⟩
 ·by_cases c : L j <;> by_cases d : L k
  ·simp only [if_pos c, if_pos d] at e
   exact hi j k c d e
  ·simp only [if_pos c, if_neg d] at e
   have := h1 k k0 k1 (hp k d hk)
   rw [← e] at this
   exact absurd (hC.wl _ k (hm j c).1 k0 k1 this.2) d
  ·simp only [if_neg c, if_pos d] at e
   have := h1 j j0 j1 (hp j c hj)
   rw [e] at this
   exact absurd (hC.wl _ j (hm k d).1 j0 j1 this.2) c
  ·simp only [if_neg c, if_neg d] at e
   exact h2 j k j0 j1 (hp j c hj) k0 k1 (hp k d hk) e
theorem up_le {M : Int} (hV : ∀ i j : Int, 0 ≤ i → i < h.nb → 0 ≤ j → j < h.nl → h.V i j ≤ M) (hM : ∀ j : Int, 0 ≤ j → j < h.nl → p j ≤ M) (hC : h.Crd p B L) (hS : h.Stp p B L s) {m : Int → Int} (hm : ∀ j : Int, L j → B (m j) ∧ h.wn p (m j) j) : ∀ j : Int, 0 ≤ j → j < h.nl → up p L s j ≤ M := fun j j0 j1 => by
 by_cases c : L j
 ·have h1 := hm j c
  have h2 := hS.g _ h1.1
  have h3 := hC.br _ h1.1
  have h4 := hV _ j h3.1.1 h3.1.2 j0 j1
  have h5 := h1.2
  unfold wn at h5
  rw [up_t c]; omega
 ·rw [up_f c]; exact hM j j0 j1
end
theorem Cov.mt {h : Hal} {p : Int → Int} (hc : h.Cov p) (a : Int → Int) : ∃ of2, Mt h.nb (fun j i => h.opR p 0 a i j) (fun j => (0 ≤ j ∧ j < h.nl) ∧ ¬ Tkn 0 a j ∧ 0 < p j) of2 := by
 classical
 obtain ⟨τ, h1, h2⟩ := hc
 have ht : ∀ j, ¬ Tkn 0 a j := fun j ⟨i, hi, _⟩ => by omega
 have hex : ∀ i : Int, ∃ x : Int, ((∃ j : Int, ((0 ≤ j ∧ j < h.nl) ∧ 0 < p j) ∧ τ j = i) → ((0 ≤ x ∧ x < h.nl) ∧ 0 < p x) ∧ τ x = i) ∧ (¬ (∃ j : Int, ((0 ≤ j ∧ j < h.nl) ∧ 0 < p j) ∧ τ j = i) → x = -1) := fun i => by
  by_cases c : ∃ j : Int, ((0 ≤ j ∧ j < h.nl) ∧ 0 < p j) ∧ τ j = i
  ·obtain ⟨j, hj⟩ := c
   exact ⟨j, fun _ => hj, fun hn => absurd ⟨j, hj⟩ hn⟩
  ·exact ⟨-1, fun q => absurd q c, fun _ => rfl⟩
 let x := fun i => Classical.choose (hex i)
 have hx := fun i => Classical.choose_spec (hex i)
 have hk : ∀ i : Int, 0 ≤ x i → ((0 ≤ x i ∧ x i < h.nl) ∧ 0 < p (x i)) ∧ τ (x i) = i := fun i hi => by
  by_cases c : ∃ j : Int, ((0 ≤ j ∧ j < h.nl) ∧ 0 < p j) ∧ τ j = i
  ·exact (hx i).1 c
  ·have : x i = -1 := (hx i).2 c
   omega
 refine ⟨x, ⟨fun i i0 i1 hi => ?_, fun i m i0 i1 m0 m1 hi e => ?_, fun j j0 hj => ?_, fun i i0 i1 hi => ?_⟩⟩
 ·obtain ⟨q1, q2⟩ := hk i hi
  have := h1 _ q1.1.1 q1.1.2 q1.2
  rw [q2] at this
  exact ⟨⟨i0, i1⟩, this.2, ht _⟩
 ·have q1 := (hk i hi).2
  have q2 := (hk m (by omega)).2
  rw [← q1, e, q2]
 ·have q := h1 j hj.1.1 hj.1.2 hj.2.2
  have r := (hx (τ j)).1 ⟨j, ⟨hj.1, hj.2.2⟩, rfl⟩
  exact ⟨τ j, q.1, h2 _ j r.1.1.1 r.1.1.2 r.1.2 hj.1.1 hj.1.2 hj.2.2 r.2⟩
 ·obtain ⟨q1, q2⟩ := hk i hi
  exact ⟨q1.1, ht _, q1.2⟩
theorem can0 {h : Hal} {p : Int → Int} {of1 : Int → Int} (hc : h.Cov p) (a : Int → Int) (h1 : Mt h.nl (fun i j => (0 ≤ i ∧ i < h.nb) ∧ h.wn p i j) (fun i => (0 ≤ i ∧ i < h.nb) ∧ 0 < h.gn p i) of1) : h.Can p 0 a := by
 obtain ⟨of2, h2⟩ := hc.mt a
 refine join2 ⟨fun i _ _ => by omega, fun i j _ _ => by omega, fun i _ _ => by omega, fun i _ _ => by omega⟩ (Int.le_refl _) (by omega) ⟨fun b b0 b1 hb => ?_, h1.inj, h1.cov, h1.only⟩ h2
 have q := h1.ok b b0 b1 hb
 exact ⟨q.1, q.2, fun ⟨i, hi, _⟩ => by omega⟩
end Hal
theorem crowd_all {nB nL : Nat} {Bs Ls σ : Int → Int} (hB : Rise nB Bs) (hL : Rise nL Ls) (hn : nB = nL + 1) {x : Int} (x0 : 0 ≤ x) (x1 : x < nB) (hin : ∀ q : Int, 0 ≤ q → q < nB → q ≠ x → ∃ j : Int, (0 ≤ j ∧ j < nL) ∧ Ls j = σ (Bs q)) (hinj : ∀ q r : Int, 0 ≤ q → q < nB → 0 ≤ r → r < nB → q ≠ x → r ≠ x → σ (Bs q) = σ (Bs r) → q = r) :
  ∀ j : Int, 0 ≤ j → j < nL → ∃ q : Int, (0 ≤ q ∧ q < nB) ∧ q ≠ x ∧ σ (Bs q) = Ls j := by
 classical
 have hu : ∀ {n : Nat} {X : Int → Int}, Rise n X → ∀ {a b : Int}, 0 ≤ a → a < n → 0 ≤ b → b < n → X a = X b → a = b := fun {n X} hX {a b} a0 a1 b0 b1 e => by
  rcases Int.lt_trichotomy a b with d | d | d
  ·have := hX.inc a b a0 d b1; omega
  ·exact d
  ·have := hX.inc b a b0 d a1; omega
 let sk : Int → Int := fun q => if q < x then q else q + 1
 have hsk : ∀ q : Int, 0 ≤ q → q < nL → (0 ≤ sk q ∧ sk q < nB) ∧ sk q ≠ x := fun q q0 q1 => by
  show (0 ≤ (if q < x then q else q + 1) ∧ (if q < x then q else q + 1) < nB) ∧ (if q < x then q else q + 1) ≠ x
  split <;> omega
 have hex : ∀ q : Int, ∃ j : Int, 0 ≤ q → q < nL → (0 ≤ j ∧ j < nL) ∧ Ls j = σ (Bs (sk q)) := fun q => by
  by_cases c : 0 ≤ q ∧ q < nL
  ·have h1 := hsk q c.1 c.2
   obtain ⟨j, hj⟩ := hin _ h1.1.1 h1.1.2 h1.2
   exact ⟨j, fun _ _ => hj⟩
  ·exact ⟨0, fun a b => absurd ⟨a, b⟩ c⟩
 intro j j0 j1
 obtain ⟨q, q0, q1, e⟩ := perm_surj (n := nL) (o := fun q => Classical.choose (hex q)) (by omega) (fun q q0 q1 => (Classical.choose_spec (hex q) q0 q1).1) (fun q r q0 q1 r0 r1 e => by
  have h1 := (Classical.choose_spec (hex q) q0 q1).2
  have h2 := (Classical.choose_spec (hex r) r0 r1).2
  have e' : Classical.choose (hex q) = Classical.choose (hex r) := e
  rw [e'] at h1
  have h3 := hsk q q0 q1
  have h4 := hsk r r0 r1
  have h5 := hinj _ _ h3.1.1 h3.1.2 h4.1.1 h4.1.2 h3.2 h4.2 (h1.symm.trans h2)
  have h6 : (if q < x then q else q + 1) = (if r < x then r else r + 1) := h5
  split at h6 <;> split at h6 <;> omega) j0 j1
 have h1 := (Classical.choose_spec (hex q) q0 q1).2
 have e' : Classical.choose (hex q) = j := e
 rw [e'] at h1
 have h3 := hsk q q0 q1
 exact ⟨sk q, h3.1, h3.2, h1.symm⟩
end Go.Proofs.YtbcjfjldmfljgaaGreat
