import Derived.Test.YtijffdhailddoaaOps
import Derived.Test.YtijffdhailddoaaNetA
import Derived.Test.YtijffdhailddoaaBits0
import Derived.Test.YtijffdhailddoaaArr
namespace Go.Proofs.Ytijffdhailddoaa
def sumTo (f : Int → Int) : Nat → Int
 | 0 => 0
 | n + 1 => sumTo f n + f n
def sm (f : Int → Int) (k : Int) : Int := sumTo f k.toNat
theorem sm_zero (f : Int → Int) : sm f 0 = 0 := rfl
theorem sm_neg (f : Int → Int) {k : Int} (h : k ≤ 0) : sm f k = 0 := by
 unfold sm; rw [show k.toNat = 0 by omega]; rfl
theorem sm_succ (f : Int → Int) {k : Int} (h : 0 ≤ k) : sm f (k + 1) = sm f k + f k := by
 unfold sm
 rw [show (k + 1).toNat = k.toNat + 1 by omega]
 simp only [sumTo, Int.toNat_of_nonneg h]
theorem sm_ind {f : Int → Int} {p : Int → Int → Prop} (h0 : p 0 0) (hs : ∀ k : Int, 0 ≤ k → ∀ s, p k s → p (k + 1) (s + f k)) {k : Int} (hk : 0 ≤ k) : p k (sm f k) := by
 obtain ⟨n, rfl⟩ := Int.eq_ofNat_of_zero_le hk
 induction n with
 | zero => exact h0
 | succ n ih =>
  have e : ((n + 1 : Nat) : Int) = (n : Int) + 1 := by omega
  rw [e, sm_succ f (by omega)]
  exact hs n (by omega) _ (ih (by omega))
theorem sm_congr {f g : Int → Int} {k : Int} (h : ∀ i : Int, 0 ≤ i → i < k → f i = g i) : sm f k = sm g k := by
 unfold sm
 have key : ∀ n : Nat, (n : Int) ≤ k → sumTo f n = sumTo g n := by
  intro n
  induction n with
  | zero => intro _; rfl
  | succ n ih => intro hn; simp only [sumTo]; rw [ih (by omega), h n (by omega) (by omega)]
 by_cases hk : 0 ≤ k
 ·exact key _ (by omega)
 ·rw [show k.toNat = 0 by omega]; rfl
theorem sm_le {f g : Int → Int} {k : Int} (h : ∀ i : Int, 0 ≤ i → i < k → f i ≤ g i) : sm f k ≤ sm g k := by
 unfold sm
 have key : ∀ n : Nat, (n : Int) ≤ k → sumTo f n ≤ sumTo g n := by
  intro n
  induction n with
  | zero => intro _; exact Int.le_refl _
  | succ n ih => intro hn; simp only [sumTo]; have := ih (by omega); have := h n (by omega) (by omega); omega
 by_cases hk : 0 ≤ k
 ·exact key _ (by omega)
 ·rw [show k.toNat = 0 by omega]; exact Int.le_refl _
theorem sm_const (c : Int) {k : Int} (hk : 0 ≤ k) : sm (fun _ => c) k = k * c := by
 obtain ⟨n, rfl⟩ := Int.eq_ofNat_of_zero_le hk
 induction n with
 | zero => simp [sm, sumTo]
 | succ n ih =>
  have e : ((n + 1 : Nat) : Int) = (n : Int) + 1 := by omega
  rw [e, sm_succ _ (by omega), ih (by omega), Int.add_mul, Int.one_mul]
theorem sm_bound {f : Int → Int} {k : Int} (M : Int) (hk : 0 ≤ k) (h : ∀ i : Int, 0 ≤ i → i < k → f i ≤ M) : sm f k ≤ k * M := by
 rw [← sm_const M hk]; exact sm_le h
theorem sm_bound' {f : Int → Int} {k : Int} (M : Int) (hk : 0 ≤ k) (h : ∀ i : Int, 0 ≤ i → i < k → M ≤ f i) : k * M ≤ sm f k := by
 rw [← sm_const M hk]; exact sm_le h
theorem sm_nonneg {f : Int → Int} {k : Int} (h : ∀ i : Int, 0 ≤ i → i < k → 0 ≤ f i) : 0 ≤ sm f k := by
 by_cases hk : 0 ≤ k
 ·have := sm_bound' 0 hk h; simpa using this
 ·rw [sm_neg f (by omega)]; exact Int.le_refl _
theorem sm_add (f g : Int → Int) (k : Int) : sm (fun i => f i + g i) k = sm f k + sm g k := by
 unfold sm
 induction k.toNat with
 | zero => rfl
 | succ n ih => simp only [sumTo]; omega
theorem sm_sub (f g : Int → Int) (k : Int) : sm (fun i => f i - g i) k = sm f k - sm g k := by
 unfold sm
 induction k.toNat with
 | zero => rfl
 | succ n ih => simp only [sumTo]; omega
theorem sm_mul (c : Int) (f : Int → Int) (k : Int) : sm (fun i => c * f i) k = c * sm f k := by
 unfold sm
 induction k.toNat with
 | zero => simp [sumTo]
 | succ n ih => simp only [sumTo]; rw [ih, Int.mul_add]
theorem sm_swap (f : Int → Int → Int) (n m : Int) : sm (fun i => sm (fun j => f i j) m) n = sm (fun j => sm (fun i => f i j) n) m := by
 unfold sm
 induction n.toNat with
 | zero =>
  simp only [sumTo]
  induction m.toNat with
  | zero => rfl
  | succ m ih => simp only [sumTo]; omega
 | succ n ih =>
  simp only [sumTo]
  rw [ih]
  induction m.toNat with
  | zero => rfl
  | succ m ih2 =>
   simp only [sumTo]
   omega
theorem sm_upd (f : Int → Int) (i x : Int) {k : Int} (h0 : 0 ≤ i) (hi : i < k) : sm (upd f i x) k = sm f k - f i + x := by
 obtain ⟨n, rfl⟩ := Int.eq_ofNat_of_zero_le (show 0 ≤ k by omega)
 induction n with
 | zero => omega
 | succ n ih =>
  have e : ((n + 1 : Nat) : Int) = (n : Int) + 1 := by omega
  rw [e, sm_succ _ (by omega), sm_succ _ (by omega)]
  by_cases hin : i < n
  ·rw [ih hin, upd_ne _ _ (by omega)]; omega
  ·have : i = n := by omega
   subst this
   rw [upd_same, sm_congr (g := f) (fun j _ hj => upd_ne _ _ (by omega))]; omega
theorem sm_pos {f : Int → Int} {k : Int} (h : ∀ i : Int, 0 ≤ i → i < k → 0 ≤ f i) (i : Int) (h0 : 0 ≤ i) (hi : i < k) : f i ≤ sm f k := by
 have e := sm_upd f i 0 h0 hi
 have : 0 ≤ sm (upd f i 0) k := sm_nonneg fun j a b => by
  unfold upd; split
  ·exact Int.le_refl _
  ·exact h j a b
 omega
end Go.Proofs.Ytijffdhailddoaa
namespace Go.Proofs.Ytijffdhailddoaa
open Go.RowKit Go.Proofs
structure Valid (n : Nat) (D : Int → Int → Int) : Prop where
 pos : 1 ≤ n
 le : n ≤ 32
 lo : ∀ r c, 0 ≤ D r c
 hi : ∀ r c, D r c ≤ 1000000
 dia : ∀ r, D r r = 0
theorem Valid.chk {n : Nat} {D : Int → Int → Int} (h : Valid n D) : chk n (fun _ => n) D = 0 :=
 chk_0 (by have := h.pos; omega) (by have := h.le; omega) (fun _ _ _ => rfl) (fun r c _ _ _ _ => by
  have := h.lo r c; have := h.hi r c
  rintro (h1 | h1 | ⟨h1, h2⟩)
  ·omega
  ·omega
  ·subst h1; exact h2 (h.dia r))
end Go.Proofs.Ytijffdhailddoaa
set_option maxRecDepth 100000
namespace Go.Proofs.Ytijffdhailddoaa
open Go.RowKit Go.Proofs
def ow (n : Nat) (D : Int → Int → Int) (i : Int) : Int := sm (D i) n
theorem ow_rng {n : Nat} {D : Int → Int → Int} (h : Valid n D) (i : Int) : 0 ≤ ow n D i ∧ ow n D i ≤ 32000000 := by
 have h1 : 0 ≤ ow n D i := sm_nonneg fun j _ _ => h.lo i j
 have h2 : ow n D i ≤ n * 1000000 := sm_bound _ (by omega) fun j _ _ => h.hi i j
 have := h.le
 omega
end Go.Proofs.Ytijffdhailddoaa
set_option maxRecDepth 100000
namespace Go.Proofs.Ytijffdhailddoaa
open Go.RowKit Go.Proofs
def pk (P : Int → Bool) : Nat → List Int
 | 0 => []
 | k + 1 => if P k then pk P k ++ [(k : Int)] else pk P k
theorem pk_mem {P : Int → Bool} {k : Nat} {x : Int} : x ∈ pk P k ↔ 0 ≤ x ∧ x < k ∧ P x = true := by
 induction k with
 | zero => simp [pk]; omega
 | succ k ih =>
  unfold pk
  split
  ·rename_i h
   rw [List.mem_append, ih, List.mem_singleton]
   constructor
   ·rintro (⟨a, b, c⟩ | rfl)
    ·exact ⟨a, by omega, c⟩
    ·exact ⟨by omega, by omega, h⟩
   ·rintro ⟨a, b, c⟩
    by_cases e : x = (k : Int)
    ·exact .inr e
    ·exact .inl ⟨a, by omega, c⟩
  ·rename_i h
   rw [ih]
   constructor
   ·rintro ⟨a, b, c⟩; exact ⟨a, by omega, c⟩
   ·rintro ⟨a, b, c⟩
    by_cases e : x = (k : Int)
    ·subst e; exact absurd c h
    ·exact ⟨a, by omega, c⟩
theorem pk_len (P : Int → Bool) (k : Nat) : (pk P k).length ≤ k := by
 induction k with
 | zero => simp [pk]
 | succ k ih =>
  unfold pk
  split
  ·rw [List.length_append, List.length_singleton]; omega
  ·omega
end Go.Proofs.Ytijffdhailddoaa
set_option maxRecDepth 100000
namespace Go.Proofs.Ytijffdhailddoaa
open Go.RowKit Go.Proofs
theorem ov_sliceAF {P : Program} {N : Nat} {o : Oper} {F : Fr} {w : World} {T E : TypeId} {x : Operand} {b off n : Nat} {s : Nat} (ho : o.op = .slice T x none none none) (hT : P.underlying T = some (.array n E)) (hs : (P.info? E).map (·.size) = some s)
  (hx : Fr.ev F x = some (.pointer (some ⟨b, off, none⟩))) : OpV P N o F w (.slice (some ⟨b, off, none⟩) n n) := by
 intro a ha
 cases hq : P.info? E with
 | none => simp [hq] at hs
 | some q =>
  unfold execOp
  rw [ho]
  have e : ∀ ad : Addr, ad.add 0 = ad := fun ad => by unfold Addr.add; simp
  simp [Instr.sliceAt, Instr.sureAddr, Instr.sliceBounds, run_underlying hT, ha.ev hx, Result.andThen, sizeOf, typeInfo, hq, e]
end Go.Proofs.Ytijffdhailddoaa
