import Derived.Test.YtbepolognfdkeaaGreatRgf
import Derived.Test.YtbepolognfdkeaaGreatSri
import Derived.Test.YtbepolognfdkeaaGreatGaD
set_option maxRecDepth 100000
namespace Go.Proofs.YtbepolognfdkeaaGreat
structure Pick (p : Int → Prop) (n c : Nat) (K : Int → Int) : Prop where
 inc : Rise c K
 mem : ∀ i : Int, (∃ j : Int, (0 ≤ j ∧ j < c) ∧ K j = i) ↔ (0 ≤ i ∧ i < n) ∧ p i
 sum : ∀ f : Int → Int, sm (fun j => f (K j)) c = sm (fun i => ind (p i) * f i) n
 le : c ≤ n
theorem Pick.nil (p : Int → Prop) (K : Int → Int) : Pick p 0 0 K :=
 ⟨⟨fun a b _ _ _ => by omega⟩, fun i => ⟨fun ⟨j, hj, _⟩ => by omega, fun ⟨h, _⟩ => by omega⟩, fun f => rfl, Nat.le_refl _⟩
theorem Pick.no {p : Int → Prop} {n c : Nat} {K : Int → Int} (h : Pick p n c K) (hp : ¬ p n) : Pick p (n + 1) c K :=
 ⟨h.inc, fun i => by
  rw [h.mem i]
  constructor
  ·rintro ⟨a, b⟩; exact ⟨by omega, b⟩
  ·rintro ⟨a, b⟩
   by_cases e : i = n
   ·rw [e] at b; exact absurd b hp
   ·exact ⟨by omega, b⟩, fun f => by
  rw [show ((n + 1 : Nat) : Int) = (n : Int) + 1 by omega, sm_succ _ (by omega), ind_f hp, h.sum f]; omega, Nat.le_succ_of_le h.le⟩
theorem Pick.yes {p : Int → Prop} {n c : Nat} {K : Int → Int} (h : Pick p n c K) (hp : p n) : Pick p (n + 1) (c + 1) (upd K c n) :=
 ⟨⟨fun a b a0 ab b1 => by
  have hk : ∀ j : Int, 0 ≤ j → j < c → K j < n := fun j j0 j1 => ((h.mem (K j)).1 ⟨j, ⟨j0, j1⟩, rfl⟩).1.2
  by_cases e : b = c
  ·rw [e, upd_same, upd_ne _ _ (by omega)]; exact hk a a0 (by omega)
  ·rw [upd_ne _ _ e, upd_ne _ _ (by omega)]; exact h.inc.inc a b a0 ab (by omega)⟩, fun i => by
  constructor
  ·rintro ⟨j, hj, e⟩
   by_cases ej : j = c
   ·rw [ej, upd_same] at e; rw [← e]; exact ⟨by omega, hp⟩
   ·rw [upd_ne _ _ ej] at e
    have := (h.mem i).1 ⟨j, by omega, e⟩
    exact ⟨by omega, this.2⟩
  ·rintro ⟨a, b⟩
   by_cases e : i = n
   ·exact ⟨c, by omega, by rw [upd_same, e]⟩
   ·obtain ⟨j, hj, ej⟩ := (h.mem i).2 ⟨by omega, b⟩
    exact ⟨j, by omega, by rw [upd_ne _ _ (by omega)]; exact ej⟩, fun f => by
  rw [show ((n + 1 : Nat) : Int) = (n : Int) + 1 by omega, show ((c + 1 : Nat) : Int) = (c : Int) + 1 by omega, sm_succ _ (by omega), sm_succ _ (by omega), ind_t hp, upd_same, ← h.sum f, sm_congr (g := fun j => f (K j)) fun j j0 j1 => by rw [upd_ne _ _ (by omega)]]
  omega, by have := h.le; omega⟩
end Go.Proofs.YtbepolognfdkeaaGreat
set_option maxRecDepth 100000
namespace Go.Proofs.YtbepolognfdkeaaGreat
open Go.RowKit Go.Proofs
def gnN (f : Int → Int) : Nat → Int
 | 0 => 0
 | k + 1 => max (gnN f k) (f k)
theorem gnN_nn (f : Int → Int) : ∀ k : Nat, 0 ≤ gnN f k
 | 0 => Int.le_refl _
 | k + 1 => by have := gnN_nn f k; show 0 ≤ max (gnN f k) (f k); omega
theorem gnN_ge (f : Int → Int) : ∀ (k : Nat) (j : Int), 0 ≤ j → j < k → f j ≤ gnN f k
 | 0, j, j0, j1 => by omega
 | k + 1, j, j0, j1 => by
  show f j ≤ max (gnN f k) (f k)
  by_cases e : j = k
  ·rw [e]; omega
  ·have := gnN_ge f k j j0 (by omega); omega
theorem gnN_at (f : Int → Int) : ∀ k : Nat, gnN f k = 0 ∨ ∃ j : Int, (0 ≤ j ∧ j < k) ∧ f j = gnN f k
 | 0 => .inl rfl
 | k + 1 => by
  show max (gnN f k) (f k) = 0 ∨ ∃ j : Int, (0 ≤ j ∧ j < ((k + 1 : Nat) : Int)) ∧ f j = max (gnN f k) (f k)
  by_cases c : gnN f k < f k
  ·exact .inr ⟨k, by omega, by omega⟩
  ·rw [show max (gnN f k) (f k) = gnN f k by omega]
   exact (gnN_at f k).imp id fun ⟨j, hj, e⟩ => ⟨j, by omega, e⟩
theorem gnN_bd {f : Int → Int} {M : Int} (M0 : 0 ≤ M) : ∀ k : Nat, (∀ j : Int, 0 ≤ j → j < k → f j ≤ M) → gnN f k ≤ M
 | 0, _ => M0
 | k + 1, h => by
  have h1 := gnN_bd M0 k fun j j0 j1 => h j j0 (by omega)
  have h2 := h k (by omega) (by omega)
  show max (gnN f k) (f k) ≤ M
  omega
theorem gnN_uniq {f : Int → Int} {k : Nat} {g : Int} (g0 : 0 ≤ g) (hge : ∀ j : Int, 0 ≤ j → j < k → f j ≤ g) (hat : g = 0 ∨ ∃ j : Int, (0 ≤ j ∧ j < k) ∧ f j = g) : gnN f k = g := by
 have h1 := gnN_bd g0 k hge
 have h2 := gnN_nn f k
 rcases hat with e | ⟨j, hj, e⟩
 ·omega
 ·have := gnN_ge f k j hj.1 hj.2; omega
structure Hal where
 nb : Nat
 nl : Nat
 V : Int → Int → Int
namespace Hal
def gn (h : Hal) (p : Int → Int) (i : Int) : Int := gnN (fun j => h.V i j - p j) h.nl
def wn (h : Hal) (p : Int → Int) (i j : Int) : Prop := h.V i j - p j = h.gn p i
theorem gn_nn (h : Hal) (p : Int → Int) (i : Int) : 0 ≤ h.gn p i := gnN_nn _ _
theorem gn_ge (h : Hal) (p : Int → Int) (i : Int) {j : Int} (j0 : 0 ≤ j) (j1 : j < h.nl) : h.V i j - p j ≤ h.gn p i := gnN_ge (fun j => h.V i j - p j) _ j j0 j1
theorem gn_at (h : Hal) (p : Int → Int) (i : Int) : h.gn p i = 0 ∨ ∃ j : Int, (0 ≤ j ∧ j < h.nl) ∧ h.wn p i j := gnN_at _ _
structure Bal (h : Hal) (p : Int → Int) (a : Int → Int) : Prop where
 rng : ∀ i : Int, 0 ≤ i → i < h.nb → a i = -1 ∨ 0 ≤ a i ∧ a i < h.nl
 inj : ∀ i k : Int, 0 ≤ i → i < h.nb → 0 ≤ k → k < h.nb → 0 ≤ a i → a i = a k → i = k
 no_ : ∀ i : Int, 0 ≤ i → i < h.nb → a i = -1 → h.gn p i = 0
 yes : ∀ i : Int, 0 ≤ i → i < h.nb → 0 ≤ a i → h.wn p i (a i)
 pos : ∀ j : Int, 0 ≤ j → j < h.nl → 0 < p j → ∃ i : Int, (0 ≤ i ∧ i < h.nb) ∧ a i = j
structure Part (h : Hal) (p : Int → Int) (k : Int) (a : Int → Int) : Prop where
 rng : ∀ i : Int, 0 ≤ i → i < k → a i = -1 ∨ 0 ≤ a i ∧ a i < h.nl
 inj : ∀ i j : Int, 0 ≤ i → i < k → 0 ≤ j → j < k → 0 ≤ a i → a i = a j → i = j
 no_ : ∀ i : Int, 0 ≤ i → i < k → a i = -1 → h.gn p i = 0
 yes : ∀ i : Int, 0 ≤ i → i < k → 0 ≤ a i → h.wn p i (a i)
def Can (h : Hal) (p : Int → Int) (k : Int) (a : Int → Int) : Prop := ∃ b, h.Bal p b ∧ ∀ i : Int, 0 ≤ i → i < k → b i = a i
def Tkn (k : Int) (a : Int → Int) (j : Int) : Prop := ∃ i : Int, (0 ≤ i ∧ i < k) ∧ a i = j
def opR (h : Hal) (p : Int → Int) (k : Int) (a : Int → Int) (i j : Int) : Prop := (k ≤ i ∧ i < h.nb) ∧ h.wn p i j ∧ ¬ Tkn k a j
inductive Rch (bs : Int → Prop) (of1 of2 : Int → Int) : Int → Prop
 | base (b : Int) : bs b → Rch bs of1 of2 b
 | step (b i c : Int) : Rch bs of1 of2 b → of2 i = b → 0 ≤ b → of1 c = i → 0 ≤ i → Rch bs of1 of2 c
structure Mt (n : Int) (op : Int → Int → Prop) (P : Int → Prop) (of : Int → Int) : Prop where
 ok : ∀ b : Int, 0 ≤ b → b < n → 0 ≤ of b → op (of b) b
 inj : ∀ b c : Int, 0 ≤ b → b < n → 0 ≤ c → c < n → 0 ≤ of b → of b = of c → b = c
 cov : ∀ x : Int, 0 ≤ x → P x → ∃ b : Int, (0 ≤ b ∧ b < n) ∧ of b = x
 only : ∀ b : Int, 0 ≤ b → b < n → 0 ≤ of b → P (of b)
theorem Mt.of_kd {n : Int} {op : Int → Int → Prop} {P : Int → Prop} {of : Int → Int} (h : KD n op P of) : Mt n op P of := by
 classical
 refine ⟨h.ok, fun b c b0 b1 c0 c1 hb e => Classical.byContradiction fun hne => ?_, fun x x0 hx => cnk_ex (by rw [h.one x x0 hx]; decide), fun b b0 b1 hb => Classical.byContradiction fun hn => ?_⟩
 ·have hle : cnk of n (of b) ≤ 1 := by
   by_cases q : P (of b)
   ·rw [h.one _ hb q]; exact Int.le_refl _
   ·rw [h.none _ hb q]; decide
  have e2 := cnk_upd (of := of) (n := n) (k := b) (x := -1) (b := of b) b0 b1
  have e3 : 1 ≤ cnk (upd of b (-1)) n (of b) := by
   have := sm_pos (f := fun g => if upd of b (-1) g = of b then (1 : Int) else 0) (k := n) (fun i _ _ => by split <;> omega) c c0 c1
   rw [upd_ne _ _ (fun q => hne q.symm), if_pos e.symm] at this
   exact this
  rw [if_pos rfl, if_neg (by omega)] at e2
  omega
 ·have e1 := h.none _ hb hn
  have e2 := sm_pos (f := fun g => if of g = of b then (1 : Int) else 0) (k := n) (fun i _ _ => by split <;> omega) b b0 b1
  rw [if_pos rfl] at e2
  unfold cnk at e1
  omega
theorem join2 {h : Hal} {p : Int → Int} {k : Int} {a : Int → Int} (hP : h.Part p k a) (k0 : 0 ≤ k) (k1 : k ≤ h.nb) {of1 of2 : Int → Int}
  (h1 : Mt h.nl (h.opR p k a) (fun i => (k ≤ i ∧ i < h.nb) ∧ 0 < h.gn p i) of1) (h2 : Mt h.nb (fun j i => h.opR p k a i j) (fun j => (0 ≤ j ∧ j < h.nl) ∧ ¬ Tkn k a j ∧ 0 < p j) of2) : h.Can p k a := by
 classical
 have l2 := h2.only
 let S := Rch (fun b => (0 ≤ b ∧ b < h.nl) ∧ ¬ Tkn k a b ∧ 0 < p b ∧ of1 b < 0) of1 of2
 have hex : ∀ i : Int, ∃ x : Int, (0 ≤ i → i < h.nb → 0 ≤ of2 i → S (of2 i) → x = of2 i) ∧ (¬ (0 ≤ of2 i ∧ S (of2 i)) → (∃ b : Int, (0 ≤ b ∧ b < h.nl) ∧ of1 b = i ∧ ¬ S b) → ((0 ≤ x ∧ x < h.nl) ∧ of1 x = i ∧ ¬ S x)) ∧ (¬ (0 ≤ of2 i ∧ S (of2 i)) → ¬ (∃ b : Int, (0 ≤ b ∧ b < h.nl) ∧ of1 b = i ∧ ¬ S b) → x = -1) := fun i => by
  by_cases c : 0 ≤ of2 i ∧ S (of2 i)
  ·exact ⟨of2 i, fun _ _ _ _ => rfl, fun hn => absurd c hn, fun hn => absurd c hn⟩
  ·by_cases d : ∃ b : Int, (0 ≤ b ∧ b < h.nl) ∧ of1 b = i ∧ ¬ S b
   ·obtain ⟨b, hb⟩ := d
    exact ⟨b, fun _ _ q1 q2 => absurd ⟨q1, q2⟩ c, fun _ _ => hb, fun _ hn => absurd ⟨b, hb⟩ hn⟩
   ·exact ⟨-1, fun _ _ q1 q2 => absurd ⟨q1, q2⟩ c, fun _ q => absurd q d, fun _ _ => rfl⟩
 let x := fun i => Classical.choose (hex i)
 have hx := fun i => Classical.choose_spec (hex i)
 have hkind : ∀ i : Int, k ≤ i → i < h.nb → (0 ≤ of2 i ∧ S (of2 i) ∧ x i = of2 i) ∨ (¬ (0 ≤ of2 i ∧ S (of2 i)) ∧ (0 ≤ x i ∧ x i < h.nl) ∧ of1 (x i) = i ∧ ¬ S (x i)) ∨ (¬ (0 ≤ of2 i ∧ S (of2 i)) ∧ x i = -1 ∧ ∀ b : Int, 0 ≤ b → b < h.nl → of1 b = i → S b) := fun i i0 i1 => by
  by_cases c : 0 ≤ of2 i ∧ S (of2 i)
  ·exact .inl ⟨c.1, c.2, (hx i).1 (by omega) i1 c.1 c.2⟩
  ·by_cases d : ∃ b : Int, (0 ≤ b ∧ b < h.nl) ∧ of1 b = i ∧ ¬ S b
   ·exact .inr (.inl ⟨c, (hx i).2.1 c d⟩)
   ·exact .inr (.inr ⟨c, (hx i).2.2 c d, fun b b0 b1 e => Classical.byContradiction fun hn => d ⟨b, ⟨b0, b1⟩, e, hn⟩⟩)
 have hop : ∀ i : Int, k ≤ i → i < h.nb → 0 ≤ x i → (0 ≤ x i ∧ x i < h.nl) ∧ h.wn p i (x i) ∧ ¬ Tkn k a (x i) := fun i i0 i1 hi => by
  rcases hkind i i0 i1 with ⟨c1, c2, c3⟩ | ⟨c1, c2, c3, c4⟩ | ⟨c1, c2, c3⟩
  ·have q := h2.ok i (by omega) i1 c1
   have r := l2 i (by omega) i1 c1
   rw [c3]; exact ⟨r.1, q.2.1, q.2.2⟩
  ·have q := h1.ok (x i) c2.1 c2.2 (by omega)
   rw [c3] at q
   exact ⟨c2, q.2.1, q.2.2⟩
  ·omega
 have hnk : ∀ {i : Int}, 0 ≤ i → i < k → ∀ {j : Int}, 0 ≤ j → a i = j → Tkn k a j := fun {i} i0 i1 {j} _ e => ⟨i, ⟨i0, i1⟩, e⟩
 refine ⟨fun i => if i < k then a i else x i, ⟨fun i i0 i1 => ?_, fun i m i0 i1 m0 m1 hi e => ?_, fun i i0 i1 e => ?_, fun i i0 i1 hi => ?_, fun j j0 j1 hj => ?_⟩, fun i i0 i1 => if_pos i1⟩
 ·show (if i < k then a i else x i) = -1 ∨ _
  by_cases c : i < k
  ·rw [if_pos c]; exact hP.rng i i0 c
  ·rw [if_neg c]
   rcases hkind i (by omega) i1 with ⟨c1, c2, c3⟩ | ⟨c1, c2, c3, c4⟩ | ⟨c1, c2, c3⟩
   ·rw [c3]; exact .inr (l2 i i0 i1 c1).1
   ·exact .inr c2
   ·exact .inl c2
 ·by_cases c : i < k <;> by_cases d : m < k
  ·simp only [if_pos c, if_pos d] at hi e
   exact hP.inj i m i0 c m0 d hi e
  ·simp only [if_pos c, if_neg d] at hi e
   exact absurd (hnk i0 c (by omega) e) (hop m (by omega) m1 (by omega)).2.2
  ·simp only [if_neg c, if_pos d] at hi e
   exact absurd (hnk m0 d hi e.symm) (hop i (by omega) i1 hi).2.2
  ·simp only [if_neg c, if_neg d] at hi e
   rcases hkind i (by omega) i1 with ⟨c1, c2, c3⟩ | ⟨c1, c2, c3, c4⟩ | ⟨c1, c2, c3⟩
   ·rcases hkind m (by omega) m1 with ⟨d1, d2, d3⟩ | ⟨d1, d2, d3, d4⟩ | ⟨d1, d2, d3⟩
    ·rw [c3, d3] at e; exact h2.inj i m i0 i1 m0 m1 c1 e
    ·rw [← e, c3] at d4; exact absurd c2 d4
    ·omega
   ·rcases hkind m (by omega) m1 with ⟨d1, d2, d3⟩ | ⟨d1, d2, d3, d4⟩ | ⟨d1, d2, d3⟩
    ·rw [e, d3] at c4; exact absurd d2 c4
    ·rw [← c3, e, d3]
    ·omega
   ·omega
 ·by_cases c : i < k
  ·simp only [if_pos c] at e
   exact hP.no_ i i0 c e
  ·simp only [if_neg c] at e
   refine Classical.byContradiction fun hg => ?_
   have hgp : 0 < h.gn p i := by have := h.gn_nn p i; omega
   obtain ⟨b, hb, eb⟩ := h1.cov i i0 ⟨⟨by omega, i1⟩, hgp⟩
   rcases hkind i (by omega) i1 with ⟨c1, c2, c3⟩ | ⟨c1, c2, c3, c4⟩ | ⟨c1, c2, c3⟩
   ·omega
   ·omega
   ·have hS := c3 b hb.1 hb.2 eb
    cases hS with
    | base _ q => omega
    | step b2 i2 _ q1 q2 q3 q4 q5 =>
     rw [eb] at q4
     subst q4
     exact c1 ⟨by omega, by rw [q2]; exact q1⟩
 ·by_cases c : i < k
  ·simp only [if_pos c] at hi ⊢
   exact hP.yes i i0 c hi
  ·simp only [if_neg c] at hi ⊢
   exact (hop i (by omega) i1 hi).2.1
 ·by_cases ht : Tkn k a j
  ·obtain ⟨i, hi, e⟩ := ht
   exact ⟨i, ⟨hi.1, by omega⟩, by show (if i < k then a i else x i) = j; rw [if_pos hi.2]; exact e⟩
  ·by_cases hS : S j
   ·obtain ⟨i, hi, e⟩ := h2.cov j j0 ⟨⟨j0, j1⟩, ht, hj⟩
    have hq := h2.ok i hi.1 hi.2 (by omega)
    refine ⟨i, hi, ?_⟩
    show (if i < k then a i else x i) = j
    rw [if_neg (by have := hq.1.1; omega)]
    exact ((hx i).1 hi.1 hi.2 (by omega) (by rw [e]; exact hS)).trans e
   ·have hb : 0 ≤ of1 j := Classical.byContradiction fun hn => hS (.base j ⟨⟨j0, j1⟩, ht, hj, by omega⟩)
    have hq := h1.ok j j0 j1 hb
    have hn : ¬ (0 ≤ of2 (of1 j) ∧ S (of2 (of1 j))) := fun ⟨q1, q2⟩ => hS (.step (of2 (of1 j)) (of1 j) j q2 rfl q1 rfl hb)
    obtain ⟨r1, r2, r3⟩ := (hx (of1 j)).2.1 hn ⟨j, ⟨j0, j1⟩, rfl, hS⟩
    refine ⟨of1 j, ⟨hb, hq.1.2⟩, ?_⟩
    show (if of1 j < k then a (of1 j) else x (of1 j)) = j
    rw [if_neg (by have := hq.1.1; omega)]
    exact h1.inj _ j r1.1 r1.2 j0 j1 (by show 0 ≤ of1 (x (of1 j)); rw [show of1 (x (of1 j)) = of1 j from r2]; exact hb) r2
end Hal
end Go.Proofs.YtbepolognfdkeaaGreat
set_option maxRecDepth 100000
namespace Go.Proofs.YtbepolognfdkeaaGreat
open Go.RowKit Go.Proofs
namespace Hal
def Cov (h : Hal) (p : Int → Int) : Prop := ∃ τ : Int → Int, (∀ j : Int, 0 ≤ j → j < h.nl → 0 < p j → (0 ≤ τ j ∧ τ j < h.nb) ∧ h.wn p (τ j) j) ∧ ∀ j k : Int, 0 ≤ j → j < h.nl → 0 < p j → 0 ≤ k → k < h.nl → 0 < p k → τ j = τ k → j = k
theorem Cov.init (h : Hal) : h.Cov (fun _ => 0) := ⟨fun _ => 0, fun j _ _ hj => absurd hj (Int.lt_irrefl 0), fun j k _ _ hj => absurd hj (Int.lt_irrefl 0)⟩
noncomputable def up (p : Int → Int) (L : Int → Prop) (s : Int) : Int → Int := fun j => @ite _ (L j) (Classical.propDecidable _) (p j + s) (p j)
theorem up_t {p : Int → Int} {L : Int → Prop} {s j : Int} (h : L j) : up p L s j = p j + s := by unfold up; rw [if_pos h]
theorem up_f {p : Int → Int} {L : Int → Prop} {s j : Int} (h : ¬ L j) : up p L s j = p j := by unfold up; rw [if_neg h]
structure Crd (h : Hal) (p : Int → Int) (B L : Int → Prop) : Prop where
 br : ∀ i : Int, B i → (0 ≤ i ∧ i < h.nb) ∧ 0 < h.gn p i
 lr : ∀ j : Int, L j → 0 ≤ j ∧ j < h.nl
 wl : ∀ i j : Int, B i → 0 ≤ j → j < h.nl → h.wn p i j → L j
structure Stp (h : Hal) (p : Int → Int) (B L : Int → Prop) (s : Int) : Prop where
 s1 : 1 ≤ s
 g : ∀ i : Int, B i → s ≤ h.gn p i
 o : ∀ i j : Int, B i → 0 ≤ j → j < h.nl → ¬ L j → s ≤ h.gn p i - (h.V i j - p j)
section
variable {h : Hal} {p : Int → Int} {B L : Int → Prop} {s : Int}
theorem gn_in (hC : h.Crd p B L) (hS : h.Stp p B L s) {i : Int} (hi : B i) : h.gn (up p L s) i = h.gn p i - s := by
 have hg := hC.br i hi
 have h1 := hS.g i hi
 refine gnN_uniq (by omega) (fun j j0 j1 => ?_) (.inr ?_)
 ·have h2 := h.gn_ge p i j0 j1
  by_cases c : L j
  ·show h.V i j - up p L s j ≤ _; rw [up_t c]; omega
  ·have := hS.o i j hi j0 j1 c
   show h.V i j - up p L s j ≤ _; rw [up_f c]; omega
 ·rcases h.gn_at p i with e | ⟨j, hj, e⟩
  ·omega
  ·have hL := hC.wl i j hi hj.1 hj.2 e
   unfold wn at e
   exact ⟨j, hj, by show h.V i j - up p L s j = _; rw [up_t hL]; omega⟩
theorem wn_in (hC : h.Crd p B L) (hS : h.Stp p B L s) {i j : Int} (hi : B i) (j0 : 0 ≤ j) (j1 : j < h.nl) (hw : h.wn p i j) : h.wn (up p L s) i j := by
 have hL := hC.wl i j hi j0 j1 hw
 unfold wn at hw ⊢
 rw [gn_in hC hS hi, up_t hL]
 omega
theorem wn_out (hS : h.Stp p B L s) {i j : Int} (j0 : 0 ≤ j) (j1 : j < h.nl) (hj : ¬ L j) (hw : h.wn p i j) : h.wn (up p L s) i j := by
 have hs := hS.s1
 unfold wn at hw ⊢
 rw [up_f hj, hw]
 refine (gnN_uniq (h.gn_nn p i) (fun k k0 k1 => ?_) (.inr ⟨j, ⟨j0, j1⟩, by show h.V i j - up p L s j = _; rw [up_f hj]; exact hw⟩)).symm
 have h2 := h.gn_ge p i k0 k1
 by_cases c : L k
 ·show h.V i k - up p L s k ≤ _; rw [up_t c]; omega
 ·show h.V i k - up p L s k ≤ _; rw [up_f c]; exact h2
theorem Cov.up (hc : h.Cov p) (hC : h.Crd p B L) (hS : h.Stp p B L s) {m : Int → Int} (hm : ∀ j : Int, L j → B (m j) ∧ h.wn p (m j) j) (hi : ∀ j k : Int, L j → L k → m j = m k → j = k) : h.Cov (up p L s) := by
 classical
 obtain ⟨τ, h1, h2⟩ := hc
 have hp : ∀ j : Int, ¬ L j → 0 < Hal.up p L s j → 0 < p j := fun j hj hq => by rw [up_f hj] at hq; exact hq
 refine ⟨fun j => if L j then m j else τ j, fun j j0 j1 hj => ?_, fun j k j0 j1 hj k0 k1 hk e => ?_⟩
 ·by_cases c : L j
  ·simp only [if_pos c]
   have := hm j c
   exact ⟨(hC.br _ this.1).1, wn_in hC hS this.1 j0 j1 this.2⟩
  ·simp only [if_neg c]
   have := h1 j j0 j1 (hp j c hj)
   exact ⟨this.1, wn_out hS j0 j1 c this.2⟩
 ·by_cases c : L j <;> by_cases d : L k
  ·simp only [if_pos c, if_pos d] at e
   exact hi j k c d e
  ·simp only [if_pos c, if_neg d] at e
   have := h1 k k0 k1 (hp k d hk)
   rw [← e] at this
   exact absurd (hC.wl _ k (hm j c).1 k0 k1 this.2) d
  ·simp only [if_neg c, if_pos d] at e
   have := h1 j j0 j1 (hp j c hj)
   rw [e] at this
   exact absurd (hC.wl _ j (hm k d).1 j0 j1 this.2) c
  ·simp only [if_neg c, if_neg d] at e
   exact h2 j k j0 j1 (hp j c hj) k0 k1 (hp k d hk) e
theorem up_le {M : Int} (hV : ∀ i j : Int, 0 ≤ i → i < h.nb → 0 ≤ j → j < h.nl → h.V i j ≤ M) (hM : ∀ j : Int, 0 ≤ j → j < h.nl → p j ≤ M) (hC : h.Crd p B L) (hS : h.Stp p B L s) {m : Int → Int} (hm : ∀ j : Int, L j → B (m j) ∧ h.wn p (m j) j) : ∀ j : Int, 0 ≤ j → j < h.nl → up p L s j ≤ M := fun j j0 j1 => by
 by_cases c : L j
 ·have h1 := hm j c
  have h2 := hS.g _ h1.1
  have h3 := hC.br _ h1.1
  have h4 := hV _ j h3.1.1 h3.1.2 j0 j1
  have h5 := h1.2
  unfold wn at h5
  rw [up_t c]; omega
 ·rw [up_f c]; exact hM j j0 j1
end
theorem Cov.mt {h : Hal} {p : Int → Int} (hc : h.Cov p) (a : Int → Int) : ∃ of2, Mt h.nb (fun j i => h.opR p 0 a i j) (fun j => (0 ≤ j ∧ j < h.nl) ∧ ¬ Tkn 0 a j ∧ 0 < p j) of2 := by
 classical
 obtain ⟨τ, h1, h2⟩ := hc
 have ht : ∀ j, ¬ Tkn 0 a j := fun j ⟨i, hi, _⟩ => by omega
 have hex : ∀ i : Int, ∃ x : Int, ((∃ j : Int, ((0 ≤ j ∧ j < h.nl) ∧ 0 < p j) ∧ τ j = i) → ((0 ≤ x ∧ x < h.nl) ∧ 0 < p x) ∧ τ x = i) ∧ (¬ (∃ j : Int, ((0 ≤ j ∧ j < h.nl) ∧ 0 < p j) ∧ τ j = i) → x = -1) := fun i => by
  by_cases c : ∃ j : Int, ((0 ≤ j ∧ j < h.nl) ∧ 0 < p j) ∧ τ j = i
  ·obtain ⟨j, hj⟩ := c
   exact ⟨j, fun _ => hj, fun hn => absurd ⟨j, hj⟩ hn⟩
  ·exact ⟨-1, fun q => absurd q c, fun _ => rfl⟩
 let x := fun i => Classical.choose (hex i)
 have hx := fun i => Classical.choose_spec (hex i)
 have hk : ∀ i : Int, 0 ≤ x i → ((0 ≤ x i ∧ x i < h.nl) ∧ 0 < p (x i)) ∧ τ (x i) = i := fun i hi => by
  by_cases c : ∃ j : Int, ((0 ≤ j ∧ j < h.nl) ∧ 0 < p j) ∧ τ j = i
  ·exact (hx i).1 c
  ·have : x i = -1 := (hx i).2 c
   omega
 refine ⟨x, ⟨fun i i0 i1 hi => ?_, fun i m i0 i1 m0 m1 hi e => ?_, fun j j0 hj => ?_, fun i i0 i1 hi => ?_⟩⟩
 ·obtain ⟨q1, q2⟩ := hk i hi
  have := h1 _ q1.1.1 q1.1.2 q1.2
  rw [q2] at this
  exact ⟨⟨i0, i1⟩, this.2, ht _⟩
 ·have q1 := (hk i hi).2
  have q2 := (hk m (by omega)).2
  rw [← q1, e, q2]
 ·have q := h1 j hj.1.1 hj.1.2 hj.2.2
  have r := (hx (τ j)).1 ⟨j, ⟨hj.1, hj.2.2⟩, rfl⟩
  exact ⟨τ j, q.1, h2 _ j r.1.1.1 r.1.1.2 r.1.2 hj.1.1 hj.1.2 hj.2.2 r.2⟩
 ·obtain ⟨q1, q2⟩ := hk i hi
  exact ⟨q1.1, ht _, q1.2⟩
theorem can0 {h : Hal} {p : Int → Int} {of1 : Int → Int} (hc : h.Cov p) (a : Int → Int) (h1 : Mt h.nl (fun i j => (0 ≤ i ∧ i < h.nb) ∧ h.wn p i j) (fun i => (0 ≤ i ∧ i < h.nb) ∧ 0 < h.gn p i) of1) : h.Can p 0 a := by
 obtain ⟨of2, h2⟩ := hc.mt a
 refine join2 ⟨fun i _ _ => by omega, fun i j _ _ => by omega, fun i _ _ => by omega, fun i _ _ => by omega⟩ (Int.le_refl _) (by omega) ⟨fun b b0 b1 hb => ?_, h1.inj, h1.cov, h1.only⟩ h2
 have q := h1.ok b b0 b1 hb
 exact ⟨q.1, q.2, fun ⟨i, hi, _⟩ => by omega⟩
def worth (h : Hal) (a : Int → Int) : Int := sm (fun i => if 0 ≤ a i then h.V i (a i) else 0) h.nb
theorem sum_at {n : Nat} {p : Int → Int} {x : Int} (x0 : 0 ≤ x) (x1 : x < n) : sm (fun j => if x = j then p j else 0) n = p x := by
 rw [sm_one1 (f := fun j => if x = j then p j else 0) (a := x) x0 x1 fun j _ _ hne => if_neg fun e => hne e.symm, if_pos rfl]
theorem Bal.best {h : Hal} {p a b : Int → Int} (hB : h.Bal p a) (hp : ∀ j : Int, 0 ≤ j → j < h.nl → 0 ≤ p j) (hr : ∀ i : Int, 0 ≤ i → i < h.nb → b i = -1 ∨ 0 ≤ b i ∧ b i < h.nl) (hi : ∀ i k : Int, 0 ≤ i → i < h.nb → 0 ≤ k → k < h.nb → 0 ≤ b i → b i = b k → i = k) : h.worth b ≤ h.worth a := by
 have hle : h.worth b ≤ sm (fun i => h.gn p i) h.nb + sm (fun i => if 0 ≤ b i then p (b i) else 0) h.nb := by
  rw [← sm_add]
  refine sm_le fun i i0 i1 => ?_
  have hg := h.gn_nn p i
  by_cases c : 0 ≤ b i
  ·have hq := (hr i i0 i1).resolve_left (by omega)
   have := h.gn_ge p i hq.1 hq.2
   rw [if_pos c, if_pos c]; omega
  ·rw [if_neg c, if_neg c]; omega
 have heq : h.worth a = sm (fun i => h.gn p i) h.nb + sm (fun i => if 0 ≤ a i then p (a i) else 0) h.nb := by
  rw [← sm_add]
  refine sm_congr fun i i0 i1 => ?_
  by_cases c : 0 ≤ a i
  ·have := hB.yes i i0 i1 c
   unfold wn at this
   rw [if_pos c, if_pos c]; omega
  ·have := hB.no_ i i0 i1 ((hB.rng i i0 i1).resolve_right fun q => c q.1)
   rw [if_neg c, if_neg c]; omega
 have sw : ∀ c : Int → Int, (∀ i : Int, 0 ≤ i → i < h.nb → c i = -1 ∨ 0 ≤ c i ∧ c i < h.nl) → sm (fun i => if 0 ≤ c i then p (c i) else 0) h.nb = sm (fun j => sm (fun i => if c i = j then p j else 0) h.nb) h.nl := fun c hc => by
  rw [sm_swap]
  refine sm_congr fun i i0 i1 => ?_
  rcases hc i i0 i1 with e | e
  ·rw [if_neg (by omega), sm_congr (g := fun _ => 0) fun j j0 _ => if_neg (by omega), sm_const 0 (by omega)]; omega
  ·rw [if_pos e.1, sum_at (p := p) e.1 e.2]
 have hb2 : sm (fun i => if 0 ≤ b i then p (b i) else 0) h.nb ≤ sm p h.nl := by
  rw [sw b hr]
  refine sm_le fun j j0 j1 => ?_
  have h1 := sm_atmost (p := fun i => b i = j) (n := h.nb) (by omega) fun i k i0 i1 k0 k1 q1 q2 => hi i k i0 i1 k0 k1 (by omega) (q1.trans q2.symm)
  have h2 : sm (fun i => if b i = j then p j else 0) h.nb = p j * sm (fun i => if b i = j then 1 else 0) h.nb := by
   rw [← sm_mul]
   exact sm_congr fun i _ _ => by split <;> simp
  rw [h2]
  have := Int.mul_le_mul_of_nonneg_left h1 (hp j j0 j1)
  omega
 have ha2 : sm p h.nl ≤ sm (fun i => if 0 ≤ a i then p (a i) else 0) h.nb := by
  rw [sw a hB.rng]
  refine sm_le fun j j0 j1 => ?_
  by_cases c : 0 < p j
  ·obtain ⟨i, hi, e⟩ := hB.pos j j0 j1 c
   have := sm_pos (f := fun i => if a i = j then p j else 0) (k := h.nb) (fun i _ _ => by split <;> omega) i hi.1 hi.2
   rw [if_pos e] at this
   exact this
  ·have h0 := hp j j0 j1
   refine Int.le_trans (by omega : p j ≤ 0) (sm_nonneg fun i _ _ => ?_)
   split <;> omega
 omega
end Hal
theorem crowd_all {nB nL : Nat} {Bs Ls σ : Int → Int} (hB : Rise nB Bs) (hL : Rise nL Ls) (hn : nB = nL + 1) {x : Int} (x0 : 0 ≤ x) (x1 : x < nB) (hin : ∀ q : Int, 0 ≤ q → q < nB → q ≠ x → ∃ j : Int, (0 ≤ j ∧ j < nL) ∧ Ls j = σ (Bs q)) (hinj : ∀ q r : Int, 0 ≤ q → q < nB → 0 ≤ r → r < nB → q ≠ x → r ≠ x → σ (Bs q) = σ (Bs r) → q = r) :
  ∀ j : Int, 0 ≤ j → j < nL → ∃ q : Int, (0 ≤ q ∧ q < nB) ∧ q ≠ x ∧ σ (Bs q) = Ls j := by
 classical
 have hu : ∀ {n : Nat} {X : Int → Int}, Rise n X → ∀ {a b : Int}, 0 ≤ a → a < n → 0 ≤ b → b < n → X a = X b → a = b := fun {n X} hX {a b} a0 a1 b0 b1 e => by
  rcases Int.lt_trichotomy a b with d | d | d
  ·have := hX.inc a b a0 d b1; omega
  ·exact d
  ·have := hX.inc b a b0 d a1; omega
 let sk : Int → Int := fun q => if q < x then q else q + 1
 have hsk : ∀ q : Int, 0 ≤ q → q < nL → (0 ≤ sk q ∧ sk q < nB) ∧ sk q ≠ x := fun q q0 q1 => by
  show (0 ≤ (if q < x then q else q + 1) ∧ (if q < x then q else q + 1) < nB) ∧ (if q < x then q else q + 1) ≠ x
  split <;> omega
 have hex : ∀ q : Int, ∃ j : Int, 0 ≤ q → q < nL → (0 ≤ j ∧ j < nL) ∧ Ls j = σ (Bs (sk q)) := fun q => by
  by_cases c : 0 ≤ q ∧ q < nL
  ·have h1 := hsk q c.1 c.2
   obtain ⟨j, hj⟩ := hin _ h1.1.1 h1.1.2 h1.2
   exact ⟨j, fun _ _ => hj⟩
  ·exact ⟨0, fun a b => absurd ⟨a, b⟩ c⟩
 intro j j0 j1
 obtain ⟨q, q0, q1, e⟩ := perm_surj (n := nL) (o := fun q => Classical.choose (hex q)) (by omega) (fun q q0 q1 => (Classical.choose_spec (hex q) q0 q1).1) (fun q r q0 q1 r0 r1 e => by
  have h1 := (Classical.choose_spec (hex q) q0 q1).2
  have h2 := (Classical.choose_spec (hex r) r0 r1).2
  have e' : Classical.choose (hex q) = Classical.choose (hex r) := e
  rw [e'] at h1
  have h3 := hsk q q0 q1
  have h4 := hsk r r0 r1
  have h5 := hinj _ _ h3.1.1 h3.1.2 h4.1.1 h4.1.2 h3.2 h4.2 (h1.symm.trans h2)
  have h6 : (if q < x then q else q + 1) = (if r < x then r else r + 1) := h5
  split at h6 <;> split at h6 <;> omega) j0 j1
 have h1 := (Classical.choose_spec (hex q) q0 q1).2
 have e' : Classical.choose (hex q) = j := e
 rw [e'] at h1
 have h3 := hsk q q0 q1
 exact ⟨sk q, h3.1, h3.2, h1.symm⟩
end Go.Proofs.YtbepolognfdkeaaGreat
