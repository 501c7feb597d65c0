import Derived.Test.YtbepolognfdkeaaGreatFaA
namespace Go.Proofs.YtbepolognfdkeaaGreat
structure HI (n M : Int) (fr to gn lf : Int → Int) (R p : Int) (h l : Int → Int) (on : Int) (τ : Int → Int) : Prop where
 t0 : ∀ v, 0 ≤ τ v
 tT : ∀ v, τ v ≤ R + p
 hz : ∀ v, τ v = 0 → h v = 0
 hb : ∀ v, 0 ≤ h v ∧ h v ≤ R + p
 A : ∀ v, 1 ≤ τ v → 0 ≤ l v ∧ l v < M ∧ to (l v) = v ∧ 0 < lf (l v) ∧ τ v - M ≤ τ (fr (l v)) ∧ h v ≤ h (fr (l v)) + gn (l v) ∧ (τ v ≤ τ (fr (l v)) → h v < h (fr (l v)) + gn (l v))
 Bp : ∀ e, 0 ≤ e → e < p → 0 < lf e → h (to e) < h (fr e) + gn e → R + e + 1 ≤ τ (fr e)
 Bq : ∀ e, p ≤ e → e < M → 0 < lf e → h (to e) < h (fr e) + gn e → R - M + e + 1 ≤ τ (fr e)
 C : (on = -1 ∧ ∀ v, τ v ≤ R) ∨ (0 ≤ on ∧ on < n ∧ R + 1 ≤ τ on)
namespace HI
variable {n M : Int} {fr to gn lf : Int → Int} {R p : Int} {h l : Int → Int} {on : Int} {τ : Int → Int}
theorem init (l : Int → Int) : HI n M fr to gn lf 0 0 (fun _ => 0) l (-1) (fun _ => 0) :=
 ⟨fun _ => Int.le_refl _, fun _ => Int.le_refl _, fun _ _ => rfl, fun _ => ⟨Int.le_refl _, Int.le_refl _⟩, fun _ hv => by omega, fun e h0 h1 => by omega, fun e h0 h1 _ _ => by omega, .inl ⟨rfl, fun _ => Int.le_refl _⟩⟩
theorem skip (H : HI n M fr to gn lf R p h l on τ) (hp : 0 ≤ p) (hv : ¬ (0 < lf p ∧ h (to p) < h (fr p) + gn p)) : HI n M fr to gn lf R (p + 1) h l on τ := by
 refine ⟨H.t0, fun v => by have := H.tT v; omega, H.hz, fun v => by have := H.hb v; omega, H.A, fun e h0 h1 h2 h3 => ?_, fun e h0 h1 => H.Bq e (by omega) h1, H.C⟩
 by_cases e1 : e = p
 ·subst e1; exact absurd ⟨h2, h3⟩ hv
 ·exact H.Bp e h0 (by omega) h2 h3
theorem take (H : HI n M fr to gn lf R p h l on τ) (hR : 0 ≤ R) (hp : 0 ≤ p) (hpM : p < M) (hl : 0 < lf p) (hv : h (to p) < h (fr p) + gn p) (hg : gn p ≤ 1) (h0 : 0 ≤ to p) (hn : to p < n) :
  HI n M fr to gn lf R (p + 1) (upd h (to p) (h (fr p) + gn p)) (upd l (to p) p) (to p) (upd τ (to p) (R + p + 1)) := by
 have hT := H.tT
 have hb := H.hb
 refine ⟨fun v => ?_, fun v => ?_, fun v hv' => ?_, fun v => ?_, fun v hv' => ?_, fun e e0 e1 e2 e3 => ?_, fun e e0 e1 e2 e3 => ?_, .inr ⟨h0, hn, by rw [upd_same]; omega⟩⟩
 ·unfold upd; split
  ·omega
  ·exact H.t0 v
 ·unfold upd; split
  ·omega
  ·have := hT v; omega
 ·unfold upd at hv' ⊢
  split at hv'
  ·omega
  ·rename_i e; rw [if_neg e]; exact H.hz v hv'
 ·unfold upd; split
  ·have := hb (fr p); have := hb (to p); omega
  ·have := hb v; omega
 ·by_cases ev : v = to p
  ·subst ev
   simp only [upd_same] at hv' ⊢
   have hB := H.Bq p (Int.le_refl _) hpM hl hv
   refine ⟨hp, hpM, trivial, hl, ?_, ?_, ?_⟩
   ·unfold upd; split <;> omega
   ·unfold upd; split
    ·rename_i e; rw [e] at hv; omega
    ·omega
   ·unfold upd; split
    ·rename_i e; rw [e] at hv; intro _; omega
    ·have := hT (fr p); intro _; omega
  ·rw [upd_ne _ _ ev] at hv' ⊢
   rw [upd_ne _ _ ev, upd_ne _ _ ev]
   obtain ⟨a1, a2, a3, a4, a5, a6, a7⟩ := H.A v hv'
   have := hT v
   refine ⟨a1, a2, a3, a4, ?_, ?_, ?_⟩
   ·unfold upd; split <;> omega
   ·unfold upd; split
    ·rename_i e; rw [e] at a6; omega
    ·omega
   ·unfold upd; split
    ·rename_i e; rw [e] at a6; intro _; omega
    ·exact a7
 ·by_cases ef : fr e = to p
  ·rw [ef, upd_same]; omega
  ·rw [upd_ne _ _ ef] at e3 ⊢
   have hnew : h (to e) < h (fr e) + gn e ∧ e ≠ p := by
    unfold upd at e3
    split at e3
    ·rename_i e4
     rw [e4]
     refine ⟨by omega, fun e5 => ?_⟩
     rw [e5] at e3; omega
    ·rename_i e4
     exact ⟨e3, fun e5 => e4 (by rw [e5])⟩
   exact H.Bp e e0 (by omega) e2 hnew.1
 ·by_cases ef : fr e = to p
  ·rw [ef, upd_same]; omega
  ·rw [upd_ne _ _ ef] at e3 ⊢
   have hnew : h (to e) < h (fr e) + gn e := by
    unfold upd at e3
    split at e3
    ·rename_i e4; rw [e4]; omega
    ·exact e3
   exact H.Bq e (by omega) e1 e2 hnew
theorem round (H : HI n M fr to gn lf R M h l on τ) (_ : 0 ≤ M) : HI n M fr to gn lf (R + M) 0 h l (-1) τ :=
 ⟨H.t0, fun v => by have := H.tT v; omega, H.hz, fun v => by have := H.hb v; omega, H.A, fun e h0 h1 => by omega, fun e h0 h1 h2 h3 => by have := H.Bp e h0 h1 h2 h3; omega, .inl ⟨rfl, fun v => by have := H.tT v; omega⟩⟩
theorem calm (H : HI n M fr to gn lf R M h l on τ) (ho : on < 0) (e : Int) (h0 : 0 ≤ e) (h1 : e < M) (h2 : 0 < lf e) : h (fr e) + gn e ≤ h (to e) := by
 rcases H.C with ⟨_, hc⟩ | ⟨hc, _⟩
 ·by_cases hv : h (to e) < h (fr e) + gn e
  ·have := H.Bp e h0 h1 h2 hv
   have := hc (fr e)
   omega
  ·omega
 ·omega
end HI
structure Back (n M : Int) (fr to gn lf : Int → Int) (h l τ : Int → Int) : Prop where
 at_ : ∀ v, 1 ≤ τ v → 0 ≤ l v ∧ l v < M ∧ to (l v) = v ∧ 0 < lf (l v) ∧ τ v - M ≤ τ (fr (l v)) ∧ h v ≤ h (fr (l v)) + gn (l v) ∧ (τ v ≤ τ (fr (l v)) → h v < h (fr (l v)) + gn (l v))
 fr_ : ∀ e, 0 ≤ e → e < M → 0 ≤ fr e ∧ fr e < n
def bk (fr l : Int → Int) (x : Int) : Nat → Int
 | 0 => x
 | i + 1 => fr (l (bk fr l x i))
theorem bk_add (fr l : Int → Int) (x : Int) (i j : Nat) : bk fr l x (i + j) = bk fr l (bk fr l x i) j := by
 induction j with
 | zero => rfl
 | succ j ih => show fr (l (bk fr l x (i + j))) = _; rw [ih]; rfl
theorem pigeonN : ∀ (n : Nat) (f : Nat → Int), (∀ i, i ≤ n → 0 ≤ f i ∧ f i < n) → ∃ i j, i < j ∧ j ≤ n ∧ f i = f j := by
 intro n
 induction n with
 | zero => intro f h; have := h 0 (Nat.le_refl _); omega
 | succ n ih =>
  intro f h
  by_cases hx : ∃ i, i ≤ n ∧ f i = f (n + 1)
  ·obtain ⟨i, h1, h2⟩ := hx
   exact ⟨i, n + 1, by omega, Nat.le_refl _, h2⟩
  ·-- the value n is renamed to the last one's
   have hne : ∀ i, i ≤ n → f i ≠ f (n + 1) := fun i hi e => hx ⟨i, hi, e⟩
   obtain ⟨i, j, h1, h2, h3⟩ := ih (fun i => if f i = n then f (n + 1) else f i) (fun i hi => by
    have h1 := h i (by omega)
    have h2 := h (n + 1) (Nat.le_refl _)
    have h3 := hne i hi
    split
    ·omega
    ·omega)
   refine ⟨i, j, h1, by omega, ?_⟩
   have h4 := hne i (by omega)
   have h5 := hne j (by omega)
   split at h3 <;> split at h3 <;> first | omega | (exfalso; omega)
theorem least {p : Nat → Prop} (h : ∃ i, p i) : ∃ i, p i ∧ ∀ j, j < i → ¬ p j := by
 obtain ⟨i, hi⟩ := h
 induction i using Nat.strongRecOn with
 | _ i ih =>
  by_cases hx : ∃ j, j < i ∧ p j
  ·obtain ⟨j, h1, h2⟩ := hx; exact ih j h1 h2
  ·exact ⟨i, hi, fun j h1 h2 => hx ⟨j, h1, h2⟩⟩
structure Found (n M : Int) (fr to gn lf : Int → Int) (l : Int → Int) (x : Int) (q : Nat) : Prop where
 pos : 1 ≤ q
 le : (q : Int) ≤ n
 ret : bk fr l x q = x
 ne : ∀ i j, i < j → j < q → bk fr l x i ≠ bk fr l x j
 arc : ∀ i, 0 ≤ l (bk fr l x i) ∧ l (bk fr l x i) < M ∧ to (l (bk fr l x i)) = bk fr l x i ∧ 0 < lf (l (bk fr l x i))
 gain : 1 ≤ sumTo (fun i => gn (l (bk fr l x i.toNat))) q
 back : ∀ i, 0 < i → i < q → bk fr l x i ≠ x
theorem found {n : Nat} {M : Int} {fr to gn lf h l τ : Int → Int} (H : Back n M fr to gn lf h l τ) (hM : 0 ≤ M) (on : Int) (h0 : 0 ≤ on) (h1 : on < n) (ht : n * M + 1 ≤ τ on) :
  ∃ q, Found n M fr to gn lf l (bk fr l on n) q := by
 have hMi : ∀ i : Nat, i ≤ n → (n : Int) * M - (i : Int) * M + 1 ≥ 1 := fun i hi => by
  have : (i : Int) * M ≤ (n : Int) * M := Int.mul_le_mul_of_nonneg_right (by omega) hM
  omega
 have chain : ∀ i : Nat, i ≤ n → (n : Int) * M - (i : Int) * M + 1 ≤ τ (bk fr l on i) := by
  intro i
  induction i with
  | zero => intro _; simp only [bk]; simp; omega
  | succ i ih =>
   intro hi
   have h2 := ih (by omega)
   have h3 := hMi i (by omega)
   have h4 := (H.at_ _ (show 1 ≤ τ (bk fr l on i) by omega)).2.2.2.2.1
   have e : ((i + 1 : Nat) : Int) * M = (i : Int) * M + M := by rw [Int.natCast_add, Int.add_mul]; simp
   rw [e]
   show _ ≤ τ (fr (l (bk fr l on i)))
   omega
 have set_ : ∀ i : Nat, i ≤ n → 1 ≤ τ (bk fr l on i) := fun i hi => by have := chain i hi; have := hMi i hi; omega
 have rng : ∀ i : Nat, i ≤ n → 0 ≤ bk fr l on i ∧ bk fr l on i < n := by
  intro i hi
  cases i with
  | zero => exact ⟨h0, h1⟩
  | succ i =>
   have := H.at_ _ (set_ i (by omega))
   exact H.fr_ _ this.1 this.2.1
 obtain ⟨i, j, hij, hjn, he⟩ := pigeonN n (bk fr l on) rng
 have per : ∀ k, bk fr l on (i + (j - i) + k) = bk fr l on (i + k) := fun k => by
  rw [show i + (j - i) + k = j + k by omega, bk_add fr l on j, bk_add fr l on i, he]
 have all : ∀ k, 1 ≤ τ (bk fr l on k) := by
  intro k
  induction k using Nat.strongRecOn with
  | _ k ih =>
   by_cases hk : k ≤ n
   ·exact set_ k hk
   ·have := per (k - j)
    rw [show i + (j - i) + (k - j) = k by omega] at this
    rw [this]
    exact ih _ (by omega)
 have hx : bk fr l (bk fr l on n) (j - i) = bk fr l on n := by
  rw [← bk_add]
  have := per (n - i)
  rw [show i + (j - i) + (n - i) = n + (j - i) by omega, show i + (n - i) = n by omega] at this
  exact this
 obtain ⟨q, ⟨hq1, hq2⟩, hmin⟩ := least (p := fun q => 1 ≤ q ∧ bk fr l (bk fr l on n) q = bk fr l on n) ⟨j - i, by omega, hx⟩
 have hqle : q ≤ j - i := by
  by_cases hlt : j - i < q
  ·exact absurd ⟨by omega, hx⟩ (hmin _ hlt)
  ·omega
 have arcs : ∀ k, _ := fun k => H.at_ (bk fr l (bk fr l on n) k) (by rw [← bk_add]; exact all _)
 refine ⟨q, hq1, by omega, hq2, fun a b hab hbq e => ?_, fun k => ⟨(arcs k).1, (arcs k).2.1, (arcs k).2.2.1, (arcs k).2.2.2.1⟩, ?_, fun k hk hkq e => hmin k hkq ⟨by omega, e⟩⟩
 ·-- the first return would come sooner
  have h2 : bk fr l (bk fr l on n) (q - b + a) = bk fr l on n := by
   have h3 := bk_add fr l (bk fr l on n) b (q - b)
   rw [show b + (q - b) = q by omega, hq2, ← e, ← bk_add] at h3
   rw [Nat.add_comm]; exact h3.symm
  exact hmin (q - b + a) (by omega) ⟨by omega, h2⟩
 ·-- the heights telescope
  generalize bk fr l on n = x at *
  have key : ∀ k : Nat, h x - h (bk fr l x k) ≤ sumTo (fun i => gn (l (bk fr l x i.toNat))) k ∧ (h x - h (bk fr l x k) = sumTo (fun i => gn (l (bk fr l x i.toNat))) k → τ (bk fr l x k) ≤ τ x - k) := by
   intro k
   induction k with
   | zero => simp [bk, sumTo]
   | succ k ih =>
    obtain ⟨_, _, _, _, _, a6, a7⟩ := arcs k
    have e : sumTo (fun i => gn (l (bk fr l x i.toNat))) (k + 1) = sumTo (fun i => gn (l (bk fr l x i.toNat))) k + gn (l (bk fr l x k)) := by simp [sumTo]
    have e2 : bk fr l x (k + 1) = fr (l (bk fr l x k)) := rfl
    rw [e, e2]
    refine ⟨by omega, fun heq => ?_⟩
    have := ih.2 (by omega)
    by_cases ht : τ (bk fr l x k) ≤ τ (fr (l (bk fr l x k)))
    ·have := a7 ht; omega
    ·omega
  have h2 := key q
  rw [hq2] at h2
  by_cases h3 : 1 ≤ sumTo (fun i => gn (l (bk fr l x i.toNat))) q
  ·exact h3
  ·have := h2.2 (by omega)
   omega
end Go.Proofs.YtbepolognfdkeaaGreat
