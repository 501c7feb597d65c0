import Derived.Test.YtlldeifbfpmbaaaGreatOps
import Derived.Test.YtlldeifbfpmbaaaGreatLate
namespace Go.Proofs.YtlldeifbfpmbaaaGreat
def sumTo (f : Int → Int) : Nat → Int
 | 0 => 0
 | n + 1 => sumTo f n + f n
def sm (f : Int → Int) (k : Int) : Int := sumTo f k.toNat
theorem sm_zero (f : Int → Int) : sm f 0 = 0 := rfl
theorem sm_neg (f : Int → Int) {k : Int} (h : k ≤ 0) : sm f k = 0 := by
 unfold sm; rw [show k.toNat = 0 by omega]; rfl
theorem sm_succ (f : Int → Int) {k : Int} (h : 0 ≤ k) : sm f (k + 1) = sm f k + f k := by
 unfold sm
 rw [show (k + 1).toNat = k.toNat + 1 by omega]
 simp only [sumTo, Int.toNat_of_nonneg h]
theorem sm_ind {f : Int → Int} {p : Int → Int → Prop} (h0 : p 0 0) (hs : ∀ k : Int, 0 ≤ k → ∀ s, p k s → p (k + 1) (s + f k)) {k : Int} (hk : 0 ≤ k) : p k (sm f k) := by
 obtain ⟨n, rfl⟩ := Int.eq_ofNat_of_zero_le hk
 induction n with
 | zero => exact h0
 | succ n ih =>
  have e : ((n + 1 : Nat) : Int) = (n : Int) + 1 := by omega
  rw [e, sm_succ f (by omega)]
  exact hs n (by omega) _ (ih (by omega))
theorem sm_congr {f g : Int → Int} {k : Int} (h : ∀ i : Int, 0 ≤ i → i < k → f i = g i) : sm f k = sm g k := by
 unfold sm
 have key : ∀ n : Nat, (n : Int) ≤ k → sumTo f n = sumTo g n := by
  intro n
  induction n with
  | zero => intro _; rfl
  | succ n ih => intro hn; simp only [sumTo]; rw [ih (by omega), h n (by omega) (by omega)]
 by_cases hk : 0 ≤ k
 ·exact key _ (by omega)
 ·rw [show k.toNat = 0 by omega]; rfl
theorem sm_le {f g : Int → Int} {k : Int} (h : ∀ i : Int, 0 ≤ i → i < k → f i ≤ g i) : sm f k ≤ sm g k := by
 unfold sm
 have key : ∀ n : Nat, (n : Int) ≤ k → sumTo f n ≤ sumTo g n := by
  intro n
  induction n with
  | zero => intro _; exact Int.le_refl _
  | succ n ih => intro hn; simp only [sumTo]; have := ih (by omega); have := h n (by omega) (by omega); omega
 by_cases hk : 0 ≤ k
 ·exact key _ (by omega)
 ·rw [show k.toNat = 0 by omega]; exact Int.le_refl _
theorem sm_const (c : Int) {k : Int} (hk : 0 ≤ k) : sm (fun _ => c) k = k * c := by
 obtain ⟨n, rfl⟩ := Int.eq_ofNat_of_zero_le hk
 induction n with
 | zero => simp [sm, sumTo]
 | succ n ih =>
  have e : ((n + 1 : Nat) : Int) = (n : Int) + 1 := by omega
  rw [e, sm_succ _ (by omega), ih (by omega), Int.add_mul, Int.one_mul]
theorem sm_bound {f : Int → Int} {k : Int} (M : Int) (hk : 0 ≤ k) (h : ∀ i : Int, 0 ≤ i → i < k → f i ≤ M) : sm f k ≤ k * M := by
 rw [← sm_const M hk]; exact sm_le h
theorem sm_bound' {f : Int → Int} {k : Int} (M : Int) (hk : 0 ≤ k) (h : ∀ i : Int, 0 ≤ i → i < k → M ≤ f i) : k * M ≤ sm f k := by
 rw [← sm_const M hk]; exact sm_le h
theorem sm_nonneg {f : Int → Int} {k : Int} (h : ∀ i : Int, 0 ≤ i → i < k → 0 ≤ f i) : 0 ≤ sm f k := by
 by_cases hk : 0 ≤ k
 ·have := sm_bound' 0 hk h; simpa using this
 ·rw [sm_neg f (by omega)]; exact Int.le_refl _
theorem sm_add (f g : Int → Int) (k : Int) : sm (fun i => f i + g i) k = sm f k + sm g k := by
 unfold sm
 induction k.toNat with
 | zero => rfl
 | succ n ih => simp only [sumTo]; omega
theorem sm_sub (f g : Int → Int) (k : Int) : sm (fun i => f i - g i) k = sm f k - sm g k := by
 unfold sm
 induction k.toNat with
 | zero => rfl
 | succ n ih => simp only [sumTo]; omega
theorem sm_mul (c : Int) (f : Int → Int) (k : Int) : sm (fun i => c * f i) k = c * sm f k := by
 unfold sm
 induction k.toNat with
 | zero => simp [sumTo]
 | succ n ih => simp only [sumTo]; rw [ih, Int.mul_add]
theorem sm_swap (f : Int → Int → Int) (n m : Int) : sm (fun i => sm (fun j => f i j) m) n = sm (fun j => sm (fun i => f i j) n) m := by
 unfold sm
 induction n.toNat with
 | zero =>
  simp only [sumTo]
  induction m.toNat with
  | zero => rfl
  | succ m ih => simp only [sumTo]; omega
 | succ n ih =>
  simp only [sumTo]
  rw [ih]
  induction m.toNat with
  | zero => rfl
  | succ m ih2 =>
   simp only [sumTo]
   omega
theorem sm_upd (f : Int → Int) (i x : Int) {k : Int} (h0 : 0 ≤ i) (hi : i < k) : sm (upd f i x) k = sm f k - f i + x := by
 obtain ⟨n, rfl⟩ := Int.eq_ofNat_of_zero_le (show 0 ≤ k by omega)
 induction n with
 | zero => omega
 | succ n ih =>
  have e : ((n + 1 : Nat) : Int) = (n : Int) + 1 := by omega
  rw [e, sm_succ _ (by omega), sm_succ _ (by omega)]
  by_cases hin : i < n
  ·rw [ih hin, upd_ne _ _ (by omega)]; omega
  ·have : i = n := by omega
   subst this
   rw [upd_same, sm_congr (g := f) (fun j _ hj => upd_ne _ _ (by omega))]; omega
theorem sm_pos {f : Int → Int} {k : Int} (h : ∀ i : Int, 0 ≤ i → i < k → 0 ≤ f i) (i : Int) (h0 : 0 ≤ i) (hi : i < k) : f i ≤ sm f k := by
 have e := sm_upd f i 0 h0 hi
 have : 0 ≤ sm (upd f i 0) k := sm_nonneg fun j a b => by
  unfold upd; split
  ·exact Int.le_refl _
  ·exact h j a b
 omega
theorem mulb {a b A B : Int} (ha : 0 ≤ a) (ha2 : a ≤ A) (hb : 0 ≤ b) (hb2 : b ≤ B) : 0 ≤ a * b ∧ a * b ≤ A * B :=
 ⟨Int.mul_nonneg ha hb, Int.mul_le_mul ha2 hb2 hb (by omega)⟩
end Go.Proofs.YtlldeifbfpmbaaaGreat
set_option maxRecDepth 100000
namespace Go.Proofs.YtlldeifbfpmbaaaGreat
open Go.RowKit Go.Proofs
def rk (f : Int → Int) : Nat → Int → Int
 | 0, _ => 0
 | n + 1, x => if rk f n x < n then rk f n x else if f n = x then n else n + 1
theorem rk_rng (f : Int → Int) (x : Int) : ∀ n : Nat, 0 ≤ rk f n x ∧ rk f n x ≤ n
 | 0 => ⟨Int.le_refl _, Int.le_refl _⟩
 | n + 1 => by
  have h := rk_rng f x n
  unfold rk
  split
  ·omega
  ·split <;> omega
theorem rk_at {f : Int → Int} {x : Int} : ∀ {n : Nat}, rk f n x < n → f (rk f n x) = x
 | 0, h => absurd h (by show ¬ (0 : Int) < 0; decide)
 | n + 1, h => by
  unfold rk at h ⊢
  split
  ·exact rk_at ‹_›
  ·rename_i h1
   rw [if_neg h1] at h
   split
   ·assumption
   ·rename_i h2
    rw [if_neg h2] at h
    omega
theorem rk_ne {f : Int → Int} {x : Int} : ∀ {n : Nat} {k : Int}, 0 ≤ k → k < rk f n x → f k ≠ x
 | 0, k, k0, h => by have h2 : k < 0 := h; omega
 | n + 1, k, k0, h => by
  have hr := rk_rng f x n
  unfold rk at h
  split at h
  ·exact rk_ne k0 h
  ·split at h
   ·exact rk_ne (n := n) k0 (by omega)
   ·rename_i h1 h2
    by_cases e : k = n
    ·rw [e]; exact h2
    ·exact rk_ne (n := n) k0 (by omega)
theorem rk_of {f : Int → Int} {n : Nat} {k x : Int} (hd : ∀ a b : Int, 0 ≤ a → a < n → 0 ≤ b → b < n → f a = f b → a = b) (k0 : 0 ≤ k) (k1 : k < n) (e : f k = x) : rk f n x = k := by
 have hr := rk_rng f x n
 have h1 : rk f n x < n := Classical.byContradiction fun h => rk_ne (n := n) k0 (by omega) e
 exact hd _ _ hr.1 h1 k0 k1 ((rk_at h1).trans e.symm)
end Go.Proofs.YtlldeifbfpmbaaaGreat
set_option maxRecDepth 100000
namespace Go.Proofs.YtlldeifbfpmbaaaGreat
open Go.RowKit Go.Proofs
theorem sm_eq {f g : Int → Int} {k : Int} (h : ∀ i : Int, 0 ≤ i → i < k → f i ≤ g i) (e : sm g k ≤ sm f k) {i : Int} (i0 : 0 ≤ i) (i1 : i < k) : f i = g i := by
 have h1 := sm_pos (f := fun i => g i - f i) (k := k) (fun i i0 i1 => by have := h i i0 i1; omega) i i0 i1
 have h2 := sm_sub g f k
 have h3 := h i i0 i1
 omega
theorem sm_one {k x : Int} (x0 : 0 ≤ x) (x1 : x < k) (c : Int) : sm (fun i => if x = i then c else 0) k = c := by
 have e : (fun i => if x = i then c else 0) = upd (fun _ => 0) x c := by
  funext i
  unfold upd
  by_cases h : i = x
  ·rw [if_pos h.symm, if_pos h]
  ·rw [if_neg h, if_neg fun e => h e.symm]
 rw [e, sm_upd _ _ _ x0 x1, sm_const 0 (by omega)]
 omega
end Go.Proofs.YtlldeifbfpmbaaaGreat
set_option maxRecDepth 100000
namespace Go.Proofs.YtlldeifbfpmbaaaGreat
open Go.RowKit Go.Proofs Go.MapKept
theorem Own.iatF {B : Nat} {w0 w : World} {H : List (Option Blk)} (hO : Own B w0 w H) {ao : Option Addr} {n : Nat} {G : Int → Value} (h : IAt B w0 ao n G) : IAt w.heap.size w ao n G := (hO.old h).mono hO.size
theorem perm_sink3 {α : Type} {x a b c : α} {M : List α} : (x :: a :: b :: c :: M).Perm (a :: b :: c :: (M ++ [x])) := List.perm_append_comm (l₁ := [x]) (l₂ := a :: b :: c :: M)
end Go.Proofs.YtlldeifbfpmbaaaGreat
set_option maxRecDepth 100000
namespace Go.Proofs.YtlldeifbfpmbaaaGreat
open Go.RowKit Go.Proofs
theorem ov_quoT {P : Program} {N : Nat} {o : Oper} {F : Fr} {w : World} {T U : TypeId} {x y : Operand} {m n : Int} (ho : o.op = .binOp .quo T x y U) (hx : Fr.ev F x = some (.int .i64 m)) (hy : Fr.ev F y = some (.int .i64 n)) (hm : -1 ≤ m ∧ m ≤ 9223372036854775807) (hn : 2 ≤ n) : OpV P N o F w (.int .i64 (max 0 m / n)) := by
 refine ov_bin ho hx hy ?_
 have h1 : m.tdiv n = max 0 m / n := by
  by_cases h : 0 ≤ m
  ·rw [show max 0 m = m by omega]; exact Int.tdiv_eq_ediv_of_nonneg h
  ·rw [show m = -1 by omega, show max (0 : Int) (-1) = 0 by decide, Int.zero_ediv, Int.neg_tdiv, Int.tdiv_eq_ediv_of_nonneg (by omega), Int.ediv_eq_zero_of_lt (by omega) (by omega)]; rfl
 have h2 : max 0 m / n ≤ max 0 m := Int.ediv_le_self _ (by omega)
 have h3 : 0 ≤ max 0 m / n := Int.ediv_nonneg (by omega) (by omega)
 simp [binOp, Op.intDiv, show n ≠ 0 by omega, h1, IntWalk.i64_in (max 0 m / n) (by omega)]
def bf (P A : Int → Int) (k l : Int) : Prop := A l < A k ∨ A k = A l ∧ P k < P l
def tr (i j k : Int) : Int := if k = j then i else if k = i then j else k
def sw (f : Int → Int) (i j : Int) : Int → Int := fun k => f (tr i j k)
def HP (n : Int) (P A : Int → Int) : Prop := ∀ k : Int, 1 ≤ k → k < n → ¬ bf P A k ((k - 1) / 2)
structure UP (n : Int) (P A : Int → Int) (j : Int) : Prop where
 rest : ∀ k : Int, 1 ≤ k → k < n → k ≠ j → ¬ bf P A k ((k - 1) / 2)
 grand : 1 ≤ j → ∀ c : Int, 1 ≤ c → c < n → (c - 1) / 2 = j → ¬ bf P A c ((j - 1) / 2)
structure DN (n : Int) (P A : Int → Int) (i : Int) : Prop where
 rest : ∀ k : Int, 1 ≤ k → k < n → (k - 1) / 2 ≠ i → ¬ bf P A k ((k - 1) / 2)
 grand : 1 ≤ i → ∀ c : Int, 1 ≤ c → c < n → (c - 1) / 2 = i → ¬ bf P A c ((i - 1) / 2)
theorem tr_l (i j : Int) : tr i j j = i := if_pos rfl
theorem tr_r (i j : Int) : tr i j i = j := by unfold tr; split; rename_i e; exact e; exact if_pos rfl
theorem tr_o {i j k : Int} (h1 : k ≠ i) (h2 : k ≠ j) : tr i j k = k := by unfold tr; rw [if_neg h2, if_neg h1]
theorem tr_tr (i j k : Int) : tr i j (tr i j k) = k := by
 by_cases h1 : k = j
 ·subst h1; rw [tr_l, tr_r]
 ·by_cases h2 : k = i
  ·subst h2; rw [tr_r, tr_l]
  ·rw [tr_o h2 h1, tr_o h2 h1]
theorem tr_rng {i j k n : Int} (i0 : 0 ≤ i) (i1 : i < n) (j0 : 0 ≤ j) (j1 : j < n) (k0 : 0 ≤ k) (k1 : k < n) : 0 ≤ tr i j k ∧ tr i j k < n := by
 unfold tr; split; omega; split <;> omega
theorem bf_sw (P A : Int → Int) (i j k l : Int) : bf (sw P i j) (sw A i j) k l ↔ bf P A (tr i j k) (tr i j l) := Iff.rfl
theorem bf_trans {P A : Int → Int} {k l m : Int} (h1 : ¬ bf P A k l) (h2 : ¬ bf P A l m) : ¬ bf P A k m := by
 unfold bf at *; omega
theorem bf_asym {P A : Int → Int} {k l : Int} (h : bf P A k l) : ¬ bf P A l k := by
 unfold bf at *; omega
theorem bf_irrefl (P A : Int → Int) (k : Int) : ¬ bf P A k k := by
 unfold bf; omega
theorem UP.stop {n : Int} {P A : Int → Int} {j : Int} (h : UP n P A j) (hj : j = 0 ∨ ¬ bf P A j ((j - 1) / 2)) : HP n P A := fun k k0 k1 => by
 by_cases e : k = j
 ·subst e; rcases hj with h0 | h0
  ·omega
  ·exact h0
 ·exact h.rest k k0 k1 e
theorem UP.step {n : Int} {P A : Int → Int} {i j : Int} (h : UP n P A j) (j0 : 1 ≤ j) (j1 : j < n) (hi : i = (j - 1) / 2) (hb : bf P A j i) : UP n (sw P i j) (sw A i j) i := by
 have i0 : 0 ≤ i := by omega
 have ij : i < j := by omega
 refine ⟨fun k k0 k1 hk => ?_, fun hi1 c c0 c1 hc => ?_⟩
 ·rw [bf_sw]
  by_cases e : k = j
  ·subst e
   rw [tr_l, ← hi, tr_r]; exact bf_asym hb
  ·rw [tr_o hk e]
   by_cases e2 : (k - 1) / 2 = i
   ·rw [e2, tr_r]
    have h1 := h.rest k k0 k1 e
    rw [e2] at h1
    exact bf_trans h1 (bf_asym hb)
   ·by_cases e3 : (k - 1) / 2 = j
    ·rw [e3, tr_l, hi]
     exact h.grand j0 k k0 k1 e3
    ·rw [tr_o e2 e3]; exact h.rest k k0 k1 e
 ·rw [bf_sw, tr_o (k := (i - 1) / 2) (by omega) (by omega)]
  have hp := h.rest i hi1 (by omega) (by omega)
  by_cases e : c = j
  ·subst e; rw [tr_l]; exact hp
  ·rw [tr_o (by omega) e]
   have h1 := h.rest c c0 c1 e
   rw [hc] at h1
   exact bf_trans h1 hp
theorem DN.stop {n : Int} {P A : Int → Int} {i : Int} (h : DN n P A i) (hi : ∀ k : Int, 1 ≤ k → k < n → (k - 1) / 2 = i → ¬ bf P A k i) : HP n P A := fun k k0 k1 => by
 by_cases e : (k - 1) / 2 = i
 ·rw [e]; exact hi k k0 k1 e
 ·exact h.rest k k0 k1 e
theorem DN.step {n : Int} {P A : Int → Int} {i j : Int} (h : DN n P A i) (i0 : 0 ≤ i) (j1 : j < n) (hj : j = 2 * i + 1 ∨ j = 2 * i + 2) (hb : bf P A j i) (ho : ∀ k : Int, 1 ≤ k → k < n → (k - 1) / 2 = i → ¬ bf P A k j) : DN n (sw P i j) (sw A i j) j := by
 have pj : (j - 1) / 2 = i := by omega
 refine ⟨fun k k0 k1 hk => ?_, fun hj1 c c0 c1 hc => ?_⟩
 ·rw [bf_sw]
  by_cases e : k = i
  ·subst e
   rw [tr_r, tr_o (k := (k - 1) / 2) (by omega) (by omega)]
   exact h.grand k0 j (by omega) j1 pj
  ·by_cases e2 : (k - 1) / 2 = i
   ·rw [e2, tr_r]
    by_cases e3 : k = j
    ·subst e3; rw [tr_l]; exact bf_asym hb
    ·rw [tr_o e e3]; exact ho k k0 k1 e2
   ·have e3 : k ≠ j := fun e3 => by rw [e3] at e2; exact e2 pj
    rw [tr_o e e3, tr_o e2 hk]; exact h.rest k k0 k1 e2
 ·rw [bf_sw, pj, tr_r, tr_o (k := c) (by omega) (by omega)]
  have h1 := h.rest c c0 c1 (by omega)
  rw [hc] at h1; exact h1
theorem HP.top {n : Int} {P A : Int → Int} (h : HP n P A) : ∀ (t : Nat) (k : Int), k.toNat = t → 0 ≤ k → k < n → ¬ bf P A k 0 := by
 intro t
 induction t using Nat.strongRecOn with
 | _ t ih =>
  intro k hk k0 k1
  by_cases e : k = 0
  ·rw [e]; exact bf_irrefl P A 0
  ·exact bf_trans (h k (by omega) k1) (ih ((k - 1) / 2).toNat (by omega) _ rfl (by omega) (by omega))
structure Cont (N : Int) (n : Int) (P A : Int → Int) (S : Int → Int) : Prop where
 at_ : ∀ k : Int, 0 ≤ k → k < n → (0 ≤ P k ∧ P k < N) ∧ A k = S (P k) ∧ 0 < A k
 inj : ∀ k l : Int, 0 ≤ k → k < n → 0 ≤ l → l < n → P k = P l → k = l
 all : ∀ i : Int, 0 ≤ i → i < N → 0 < S i → ∃ k : Int, 0 ≤ k ∧ k < n ∧ P k = i
theorem Cont.sw {N n : Int} {P A S : Int → Int} (h : Cont N n P A S) {i j : Int} (i0 : 0 ≤ i) (i1 : i < n) (j0 : 0 ≤ j) (j1 : j < n) : Cont N n (sw P i j) (sw A i j) S := by
 refine ⟨fun k k0 k1 => ?_, fun k l k0 k1 l0 l1 e => ?_, fun v v0 v1 hv => ?_⟩
 ·have := tr_rng i0 i1 j0 j1 k0 k1
  exact h.at_ _ this.1 this.2
 ·have q1 := tr_rng i0 i1 j0 j1 k0 k1
  have q2 := tr_rng i0 i1 j0 j1 l0 l1
  have := h.inj _ _ q1.1 q1.2 q2.1 q2.2 e
  rw [← tr_tr i j k, this, tr_tr]
 ·obtain ⟨k, k0, k1, hk⟩ := h.all v v0 v1 hv
  have q1 := tr_rng i0 i1 j0 j1 k0 k1
  exact ⟨tr i j k, q1.1, q1.2, by show P (tr i j (tr i j k)) = v; rw [tr_tr]; exact hk⟩
theorem Cont.push {N n : Int} {P A S : Int → Int} (h : Cont N n P A S) {p a : Int} (p0 : 0 ≤ p) (p1 : p < N) (hs : S p = 0) (ha : 0 < a) (n0 : 0 ≤ n) : Cont N (n + 1) (upd P n p) (upd A n a) (upd S p a) := by
 have hne : ∀ k : Int, 0 ≤ k → k < n → P k ≠ p := fun k k0 k1 e => by have := h.at_ k k0 k1; rw [e] at this; omega
 refine ⟨fun k k0 k1 => ?_, fun k l k0 k1 l0 l1 e => ?_, fun v v0 v1 hv => ?_⟩
 ·by_cases e : k = n
  ·subst e; rw [upd_same, upd_same, upd_same]; exact ⟨⟨p0, p1⟩, rfl, ha⟩
  ·rw [upd_ne _ _ e, upd_ne _ _ e, upd_ne _ _ (hne k k0 (by omega))]; exact h.at_ k k0 (by omega)
 ·by_cases e1 : k = n <;> by_cases e2 : l = n
  ·omega
  ·rw [e1, upd_same, upd_ne _ _ e2] at e; exact absurd e.symm (hne l l0 (by omega))
  ·rw [e2, upd_same, upd_ne _ _ e1] at e; exact absurd e (hne k k0 (by omega))
  ·rw [upd_ne _ _ e1, upd_ne _ _ e2] at e; exact h.inj k l k0 (by omega) l0 (by omega) e
 ·by_cases e : v = p
  ·exact ⟨n, n0, by omega, by rw [upd_same]; exact e.symm⟩
  ·rw [upd_ne _ _ e] at hv
   obtain ⟨k, k0, k1, hk⟩ := h.all v v0 v1 hv
   exact ⟨k, k0, by omega, by rw [upd_ne _ _ (by omega)]; exact hk⟩
theorem Cont.pop {N n : Int} {P A S : Int → Int} (h : Cont N n P A S) (n1 : 1 ≤ n) : Cont N (n - 1) P A (upd S (P (n - 1)) 0) := by
 have hne : ∀ k : Int, 0 ≤ k → k < n - 1 → P k ≠ P (n - 1) := fun k k0 k1 e => by have := h.inj k (n - 1) k0 (by omega) (by omega) (by omega) e; omega
 refine ⟨fun k k0 k1 => ?_, fun k l k0 k1 l0 l1 e => h.inj k l k0 (by omega) l0 (by omega) e, fun v v0 v1 hv => ?_⟩
 ·rw [upd_ne _ _ (hne k k0 k1)]; exact h.at_ k k0 (by omega)
 ·by_cases e : v = P (n - 1)
  ·rw [e, upd_same] at hv; omega
  ·rw [upd_ne _ _ e] at hv
   obtain ⟨k, k0, k1, hk⟩ := h.all v v0 v1 hv
   refine ⟨k, k0, ?_, hk⟩
   have : k ≠ n - 1 := fun e' => by rw [e'] at hk; exact e hk.symm
   omega
end Go.Proofs.YtlldeifbfpmbaaaGreat
