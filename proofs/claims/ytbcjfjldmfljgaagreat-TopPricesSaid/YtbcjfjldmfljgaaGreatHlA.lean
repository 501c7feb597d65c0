import Derived.Test.YtbcjfjldmfljgaaGreatGaD
import Derived.Test.YtbcjfjldmfljgaaGreatGaK
set_option maxRecDepth 100000
namespace Go.Proofs.YtbcjfjldmfljgaaGreat
open Go.RowKit Go.Proofs
def gnN (f : Int → Int) : Nat → Int
 | 0 => 0
 | k + 1 => max (gnN f k) (f k)
theorem gnN_nn (f : Int → Int) : ∀ k : Nat, 0 ≤ gnN f k
 | 0 => Int.le_refl _
 | k + 1 => by have := gnN_nn f k; show 0 ≤ max (gnN f k) (f k); omega
theorem gnN_ge (f : Int → Int) : ∀ (k : Nat) (j : Int), 0 ≤ j → j < k → f j ≤ gnN f k
 | 0, j, j0, j1 => by omega
 | k + 1, j, j0, j1 => by
  show f j ≤ max (gnN f k) (f k)
  by_cases e : j = k
  ·rw [e]; omega
  ·have := gnN_ge f k j j0 (by omega); omega
theorem gnN_at (f : Int → Int) : ∀ k : Nat, gnN f k = 0 ∨ ∃ j : Int, (0 ≤ j ∧ j < k) ∧ f j = gnN f k
 | 0 => .inl rfl
 | k + 1 => by
  show max (gnN f k) (f k) = 0 ∨ ∃ j : Int, (0 ≤ j ∧ j < ((k + 1 : Nat) : Int)) ∧ f j = max (gnN f k) (f k)
  by_cases c : gnN f k < f k
  ·exact .inr ⟨k, by omega, by omega⟩
  ·rw [show max (gnN f k) (f k) = gnN f k by omega]
   exact (gnN_at f k).imp id fun ⟨j, hj, e⟩ => ⟨j, by omega, e⟩
theorem gnN_bd {f : Int → Int} {M : Int} (M0 : 0 ≤ M) : ∀ k : Nat, (∀ j : Int, 0 ≤ j → j < k → f j ≤ M) → gnN f k ≤ M
 | 0, _ => M0
 | k + 1, h => by
  have h1 := gnN_bd M0 k fun j j0 j1 => h j j0 (by omega)
  have h2 := h k (by omega) (by omega)
  show max (gnN f k) (f k) ≤ M
  omega
theorem gnN_uniq {f : Int → Int} {k : Nat} {g : Int} (g0 : 0 ≤ g) (hge : ∀ j : Int, 0 ≤ j → j < k → f j ≤ g) (hat : g = 0 ∨ ∃ j : Int, (0 ≤ j ∧ j < k) ∧ f j = g) : gnN f k = g := by
 have h1 := gnN_bd g0 k hge
 have h2 := gnN_nn f k
 rcases hat with e | ⟨j, hj, e⟩
 ·omega
 ·have := gnN_ge f k j hj.1 hj.2; omega
structure Hal where
 nb : Nat
 nl : Nat
 V : Int → Int → Int
namespace Hal
def gn (h : Hal) (p : Int → Int) (i : Int) : Int := gnN (fun j => h.V i j - p j) h.nl
def wn (h : Hal) (p : Int → Int) (i j : Int) : Prop := h.V i j - p j = h.gn p i
theorem gn_nn (h : Hal) (p : Int → Int) (i : Int) : 0 ≤ h.gn p i := gnN_nn _ _
theorem gn_ge (h : Hal) (p : Int → Int) (i : Int) {j : Int} (j0 : 0 ≤ j) (j1 : j < h.nl) : h.V i j - p j ≤ h.gn p i := gnN_ge (fun j => h.V i j - p j) _ j j0 j1
theorem gn_at (h : Hal) (p : Int → Int) (i : Int) : h.gn p i = 0 ∨ ∃ j : Int, (0 ≤ j ∧ j < h.nl) ∧ h.wn p i j := gnN_at _ _
structure Bal (h : Hal) (p : Int → Int) (a : Int → Int) : Prop where
 rng : ∀ i : Int, 0 ≤ i → i < h.nb → a i = -1 ∨ 0 ≤ a i ∧ a i < h.nl
 inj : ∀ i k : Int, 0 ≤ i → i < h.nb → 0 ≤ k → k < h.nb → 0 ≤ a i → a i = a k → i = k
 no_ : ∀ i : Int, 0 ≤ i → i < h.nb → a i = -1 → h.gn p i = 0
 yes : ∀ i : Int, 0 ≤ i → i < h.nb → 0 ≤ a i → h.wn p i (a i)
 pos : ∀ j : Int, 0 ≤ j → j < h.nl → 0 < p j → ∃ i : Int, (0 ≤ i ∧ i < h.nb) ∧ a i = j
structure Part (h : Hal) (p : Int → Int) (k : Int) (a : Int → Int) : Prop where
 rng : ∀ i : Int, 0 ≤ i → i < k → a i = -1 ∨ 0 ≤ a i ∧ a i < h.nl
 inj : ∀ i j : Int, 0 ≤ i → i < k → 0 ≤ j → j < k → 0 ≤ a i → a i = a j → i = j
 no_ : ∀ i : Int, 0 ≤ i → i < k → a i = -1 → h.gn p i = 0
 yes : ∀ i : Int, 0 ≤ i → i < k → 0 ≤ a i → h.wn p i (a i)
def Can (h : Hal) (p : Int → Int) (k : Int) (a : Int → Int) : Prop := ∃ b, h.Bal p b ∧ ∀ i : Int, 0 ≤ i → i < k → b i = a i
def Tkn (k : Int) (a : Int → Int) (j : Int) : Prop := ∃ i : Int, (0 ≤ i ∧ i < k) ∧ a i = j
def opR (h : Hal) (p : Int → Int) (k : Int) (a : Int → Int) (i j : Int) : Prop := (k ≤ i ∧ i < h.nb) ∧ h.wn p i j ∧ ¬ Tkn k a j
inductive Rch (bs : Int → Prop) (of1 of2 : Int → Int) : Int → Prop
 | base (b : Int) : bs b → Rch bs of1 of2 b
 | step (b i c : Int) : Rch bs of1 of2 b → of2 i = b → 0 ≤ b → of1 c = i → 0 ≤ i → Rch bs of1 of2 c
structure Mt (n : Int) (op : Int → Int → Prop) (P : Int → Prop) (of : Int → Int) : Prop where
 ok : ∀ b : Int, 0 ≤ b → b < n → 0 ≤ of b → op (of b) b
 inj : ∀ b c : Int, 0 ≤ b → b < n → 0 ≤ c → c < n → 0 ≤ of b → of b = of c → b = c
 cov : ∀ x : Int, 0 ≤ x → P x → ∃ b : Int, (0 ≤ b ∧ b < n) ∧ of b = x
 only : ∀ b : Int, 0 ≤ b → b < n → 0 ≤ of b → P (of b)
theorem Mt.of_kd {n : Int} {op : Int → Int → Prop} {P : Int → Prop} {of : Int → Int} (h : KD n op P of) : Mt n op P of := by
 classical
 refine ⟨h.ok, fun b c b0 b1 c0 c1 hb e => Classical.byContradiction fun hne => ?_, fun x x0 hx => cnk_ex (by rw [h.one x x0 hx]; decide), fun b b0 b1 hb => Classical.byContradiction fun hn => ?_⟩
 ·have hle : cnk of n (of b) ≤ 1 := by
   by_cases q : P (of b)
   ·rw [h.one _ hb q]; exact Int.le_refl _
   ·rw [h.none _ hb q]; decide
  have e2 := cnk_upd (of := of) (n := n) (k := b) (x := -1) (b := of b) b0 b1
  have e3 : 1 ≤ cnk (upd of b (-1)) n (of b) := by
   have := sm_pos (f := fun g => if upd of b (-1) g = of b then (1 : Int) else 0) (k := n) (fun i _ _ => by split <;> omega) c c0 c1
   rw [upd_ne _ _ (fun q => hne q.symm), if_pos e.symm] at this
   exact this
  rw [if_pos rfl, if_neg (by omega)] at e2
  omega
 ·have e1 := h.none _ hb hn
  have e2 := sm_pos (f := fun g => if of g = of b then (1 : Int) else 0) (k := n) (fun i _ _ => by split <;> omega) b b0 b1
  rw [if_pos rfl] at e2
  unfold cnk at e1
  omega
theorem join2 {h : Hal} {p : Int → Int} {k : Int} {a : Int → Int} (hP : h.Part p k a) (k0 : 0 ≤ k) (k1 : k ≤ h.nb) {of1 of2 : Int → Int}
  (h1 : Mt h.nl (h.opR p k a) (fun i => (k ≤ i ∧ i < h.nb) ∧ 0 < h.gn p i) of1) (h2 : Mt h.nb (fun j i => h.opR p k a i j) (fun j => (0 ≤ j ∧ j < h.nl) ∧ ¬ Tkn k a j ∧ 0 < p j) of2) : h.Can p k a := by
 classical
 have l2 := h2.only
 let S := Rch (fun b => (0 ≤ b ∧ b < h.nl) ∧ ¬ Tkn k a b ∧ 0 < p b ∧ of1 b < 0) of1 of2
 have hex : ∀ i : Int, ∃ x : Int, (0 ≤ i → i < h.nb → 0 ≤ of2 i → S (of2 i) → x = of2 i) ∧ (¬ (0 ≤ of2 i ∧ S (of2 i)) → (∃ b : Int, (0 ≤ b ∧ b < h.nl) ∧ of1 b = i ∧ ¬ S b) → ((0 ≤ x ∧ x < h.nl) ∧ of1 x = i ∧ ¬ S x)) ∧ (¬ (0 ≤ of2 i ∧ S (of2 i)) → ¬ (∃ b : Int, (0 ≤ b ∧ b < h.nl) ∧ of1 b = i ∧ ¬ S b) → x = -1) := fun i => by
  by_cases c : 0 ≤ of2 i ∧ S (of2 i)
  ·exact ⟨of2 i, fun _ _ _ _ => rfl, fun hn => absurd c hn, fun hn => absurd c hn⟩
  ·by_cases d : ∃ b : Int, (0 ≤ b ∧ b < h.nl) ∧ of1 b = i ∧ ¬ S b
   ·obtain ⟨b, hb⟩ := d
    exact ⟨b, fun _ _ q1 q2 => absurd ⟨q1, q2⟩ c, fun _ _ => hb, fun _ hn => absurd ⟨b, hb⟩ hn⟩
   ·exact ⟨-1, fun _ _ q1 q2 => absurd ⟨q1, q2⟩ c, fun _ q => absurd q d, fun _ _ => rfl⟩
 let x := fun i => Classical.choose (hex i)
 have hx := fun i => Classical.choose_spec (hex i)
 have hkind : ∀ i : Int, k ≤ i → i < h.nb → (0 ≤ of2 i ∧ S (of2 i) ∧ x i = of2 i) ∨ (¬ (0 ≤ of2 i ∧ S (of2 i)) ∧ (0 ≤ x i ∧ x i < h.nl) ∧ of1 (x i) = i ∧ ¬ S (x i)) ∨ (¬ (0 ≤ of2 i ∧ S (of2 i)) ∧ x i = -1 ∧ ∀ b : Int, 0 ≤ b → b < h.nl → of1 b = i → S b) := fun i i0 i1 => by
  by_cases c : 0 ≤ of2 i ∧ S (of2 i)
  ·exact .inl ⟨c.1, c.2, (hx i).1 (by omega) i1 c.1 c.2⟩
  ·by_cases d : ∃ b : Int, (0 ≤ b ∧ b < h.nl) ∧ of1 b = i ∧ ¬ S b
   ·exact .inr (.inl ⟨c, (hx i).2.1 c d⟩)
   ·exact .inr (.inr ⟨c, (hx i).2.2 c d, fun b b0 b1 e => Classical.byContradiction fun hn => d ⟨b, ⟨b0, b1⟩, e, hn⟩⟩)
 have hop : ∀ i : Int, k ≤ i → i < h.nb → 0 ≤ x i → (0 ≤ x i ∧ x i < h.nl) ∧ h.wn p i (x i) ∧ ¬ Tkn k a (x i) := fun i i0 i1 hi => by
  rcases hkind i i0 i1 with ⟨c1, c2, c3⟩ | ⟨c1, c2, c3, c4⟩ | ⟨c1, c2, c3⟩
  ·have q := h2.ok i (by omega) i1 c1
   have r := l2 i (by omega) i1 c1
   rw [c3]; exact ⟨r.1, q.2.1, q.2.2⟩
  ·have q := h1.ok (x i) c2.1 c2.2 (by omega)
   rw [c3] at q
   exact ⟨c2, q.2.1, q.2.2⟩
  ·omega
 have hnk : ∀ {i : Int}, 0 ≤ i → i < k → ∀ {j : Int}, 0 ≤ j → a i = j → Tkn k a j := fun {i} i0 i1 {j} _ e => ⟨i, ⟨i0, i1⟩, e⟩
 refine ⟨fun i => if i < k then a i else x i, ⟨fun i i0 i1 => ?_, fun i m i0 i1 m0 m1 hi e => ?_, fun i i0 i1 e => ?_, fun i i0 i1 hi => ?_, fun j j0 j1 hj => ?_⟩, fun i i0 i1 => if_pos i1⟩
 ·show (if i < k then a i else x i) = -1 ∨ _
  by_cases c : i < k
  ·rw [if_pos c]; exact hP.rng i i0 c
  ·rw [if_neg c]
   rcases hkind i (by omega) i1 with ⟨c1, c2, c3⟩ | ⟨c1, c2, c3, c4⟩ | ⟨c1, c2, c3⟩
   ·rw [c3]; exact .inr (l2 i i0 i1 c1).1
   ·exact .inr c2
   ·exact .inl c2
 ·by_cases c : i < k <;> by_cases d : m < k
  ·simp only [if_pos c, if_pos d] at hi e
   exact hP.inj i m i0 c m0 d hi e
  ·simp only [if_pos c, if_neg d] at hi e
   exact absurd (hnk i0 c (by omega) e) (hop m (by omega) m1 (by omega)).2.2
  ·simp only [if_neg c, if_pos d] at hi e
   exact absurd (hnk m0 d hi e.symm) (hop i (by omega) i1 hi).2.2
  ·simp only [if_neg c, if_neg d] at hi e
   rcases hkind i (by omega) i1 with ⟨c1, c2, c3⟩ | ⟨c1, c2, c3, c4⟩ | ⟨c1, c2, c3⟩
   ·rcases hkind m (by omega) m1 with ⟨d1, d2, d3⟩ | ⟨d1, d2, d3, d4⟩ | ⟨d1, d2, d3⟩
    ·rw [c3, d3] at e; exact h2.inj i m i0 i1 m0 m1 c1 e
    ·rw [← e, c3] at d4; exact absurd c2 d4
    ·omega
   ·rcases hkind m (by omega) m1 with ⟨d1, d2, d3⟩ | ⟨d1, d2, d3, d4⟩ | ⟨d1, d2, d3⟩
    ·rw [e, d3] at c4; exact absurd d2 c4
    ·rw [← c3, e, d3]
    ·omega
   ·omega
 ·by_cases c : i < k
  ·simp only [if_pos c] at e
   exact hP.no_ i i0 c e
  ·simp only [if_neg c] at e
   refine Classical.byContradiction fun hg => ?_
   have hgp : 0 < h.gn p i := by have := h.gn_nn p i; omega
   obtain ⟨b, hb, eb⟩ := h1.cov i i0 ⟨⟨by omega, i1⟩, hgp⟩
   rcases hkind i (by omega) i1 with ⟨c1, c2, c3⟩ | ⟨c1, c2, c3, c4⟩ | ⟨c1, c2, c3⟩
   ·omega
   ·omega
   ·have hS := c3 b hb.1 hb.2 eb
    cases hS with
    | base _ q => omega
    | step b2 i2 _ q1 q2 q3 q4 q5 =>
     rw [eb] at q4
     subst q4
     exact c1 ⟨by omega, by rw [q2]; exact q1⟩
 ·by_cases c : i < k
  ·simp only [if_pos c] at hi ⊢
   exact hP.yes i i0 c hi
  ·simp only [if_neg c] at hi ⊢
   exact (hop i (by omega) i1 hi).2.1
 ·by_cases ht : Tkn k a j
  ·obtain ⟨i, hi, e⟩ := ht
   exact ⟨i, ⟨hi.1, by omega⟩, by show (if i < k then a i else x i) = j; rw [if_pos hi.2]; exact e⟩
  ·by_cases hS : S j
   ·obtain ⟨i, hi, e⟩ := h2.cov j j0 ⟨⟨j0, j1⟩, ht, hj⟩
    have hq := h2.ok i hi.1 hi.2 (by omega)
    refine ⟨i, hi, ?_⟩
    show (if i < k then a i else x i) = j
    rw [if_neg (by have := hq.1.1; omega)]
    exact ((hx i).1 hi.1 hi.2 (by omega) (by rw [e]; exact hS)).trans e
   ·have hb : 0 ≤ of1 j := Classical.byContradiction fun hn => hS (.base j ⟨⟨j0, j1⟩, ht, hj, by omega⟩)
    have hq := h1.ok j j0 j1 hb
    have hn : ¬ (0 ≤ of2 (of1 j) ∧ S (of2 (of1 j))) := fun ⟨q1, q2⟩ => hS (.step (of2 (of1 j)) (of1 j) j q2 rfl q1 rfl hb)
    obtain ⟨r1, r2, r3⟩ := (hx (of1 j)).2.1 hn ⟨j, ⟨j0, j1⟩, rfl, hS⟩
    refine ⟨of1 j, ⟨hb, hq.1.2⟩, ?_⟩
    show (if of1 j < k then a (of1 j) else x (of1 j)) = j
    rw [if_neg (by have := hq.1.1; omega)]
    exact h1.inj _ j r1.1 r1.2 j0 j1 (by show 0 ≤ of1 (x (of1 j)); rw [show of1 (x (of1 j)) = of1 j from r2]; exact hb) r2
end Hal
end Go.Proofs.YtbcjfjldmfljgaaGreat
