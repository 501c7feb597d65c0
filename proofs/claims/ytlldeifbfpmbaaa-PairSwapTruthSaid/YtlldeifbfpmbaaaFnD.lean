import Derived.Test.YtlldeifbfpmbaaaQui
import Derived.Test.YtlldeifbfpmbaaaFnB
import Derived.Test.YtlldeifbfpmbaaaFkA
import Derived.Test.YtlldeifbfpmbaaaBits0
import Derived.Test.YtlldeifbfpmbaaaTb9
set_option maxRecDepth 100000
namespace Go.Proofs.Ytlldeifbfpmbaaa
open Go.RowKit Go.Proofs Go.MapKept
def InI (M : Int → Int) (i x : Int) : Prop := ∃ j : Int, (0 ≤ j ∧ j < i) ∧ M j = x
def op5 (lk : Int → Int → Int) (l : Int → Int) (I : Int → Prop) (w x k : Int) : Prop := I x ∧ I k ∧ (lk x k < lk x (l x) ∨ x ≠ w ∧ lk x k = lk x (l x))
def CoalW (lk : Int → Int → Int) (l : Int → Int) (I : Int → Prop) (w : Int) : Prop := ∃ σ : Int → Int, (∀ x : Int, I x → op5 lk l I w x (σ x)) ∧ ∀ x y : Int, I x → I y → σ x = σ y → x = y
def Coal (lk : Int → Int → Int) (l : Int → Int) (I : Int → Prop) : Prop := ∃ w : Int, I w ∧ CoalW lk l I w
structure Memb (n mn : Nat) (M : Int → Int) : Prop where
 rng : ∀ j : Int, 0 ≤ j → j < mn → 0 ≤ M j ∧ M j < n
 inc : ∀ j : Int, 0 ≤ j → j + 1 < mn → M j < M (j + 1)
theorem Memb.lt {n mn : Nat} {M : Int → Int} (h : Memb n mn M) {a b : Int} (a0 : 0 ≤ a) (hab : a < b) (b1 : b < mn) : M a < M b := by
 obtain ⟨d, rfl⟩ : ∃ d : Nat, b = a + 1 + d := ⟨(b - a - 1).toNat, by omega⟩
 clear hab
 induction d with
 | zero => rw [show a + 1 + ((0 : Nat) : Int) = a + 1 by omega] at b1 ⊢; exact h.inc a a0 b1
 | succ d ih =>
  have h1 := ih (by omega)
  have h2 := h.inc (a + 1 + d) (by omega) (by omega)
  rw [show a + 1 + ((d + 1 : Nat) : Int) = a + 1 + d + 1 by omega]
  omega
theorem Memb.inj {n mn : Nat} {M : Int → Int} (h : Memb n mn M) {a b : Int} (a0 : 0 ≤ a) (a1 : a < mn) (b0 : 0 ≤ b) (b1 : b < mn) (e : M a = M b) : a = b := by
 rcases Int.lt_trichotomy a b with c | c | c
 ·have := h.lt a0 c b1; omega
 ·exact c
 ·have := h.lt b0 c a1; omega
theorem Memb.short {n mn : Nat} {M : Int → Int} (h : Memb n mn M) : mn ≤ n := pigeon (e := M) h.rng fun _ _ a0 a1 b0 b1 e => h.inj a0 a1 b0 b1 e
theorem Memb.in_rng {n mn : Nat} {M : Int → Int} (h : Memb n mn M) {x : Int} (hx : InI M mn x) : 0 ≤ x ∧ x < n := by
 obtain ⟨j, ⟨j0, j1⟩, e⟩ := hx
 rw [← e]
 exact h.rng j j0 j1
theorem InI.snoc {M : Int → Int} {i x : Int} (i0 : 0 ≤ i) : InI M (i + 1) x ↔ InI M i x ∨ x = M i := by
 constructor
 ·rintro ⟨j, ⟨j0, j1⟩, e⟩
  by_cases c : j = i
  ·right; rw [← e, c]
  ·exact .inl ⟨j, ⟨j0, by omega⟩, e⟩
 ·rintro (⟨j, ⟨j0, j1⟩, e⟩ | e)
  ·exact ⟨j, ⟨j0, by omega⟩, e⟩
  ·exact ⟨i, ⟨i0, by omega⟩, e.symm⟩
end Go.Proofs.Ytlldeifbfpmbaaa
set_option maxRecDepth 100000
namespace Go.Proofs.Ytlldeifbfpmbaaa
open Go.RowKit Go.Proofs
section
variable {P : Program} {N : Nat} {o : Oper} {F : Fr} {w : World} {T U : TypeId} {x y : Operand}
theorem i64_and1 (m : Int) (h0 : 0 ≤ m) (h1 : m < 4611686018427387904) : IntKind.i64.wrap (((BitVec.ofInt 64 m &&& BitVec.ofInt 64 1).toNat : Nat) : Int) = m % 2 := by
 obtain ⟨a, rfl⟩ := Int.eq_ofNat_of_zero_le h0
 have e1 : BitVec.ofInt 64 (a : Int) = BitVec.ofNat 64 a := BitVec.ofInt_natCast 64 a
 have e2 : BitVec.ofInt 64 1 = BitVec.ofNat 64 1 := rfl
 have e : (BitVec.ofInt 64 (a : Int) &&& BitVec.ofInt 64 1).toNat = a % 2 := by
  rw [e1, e2, BitVec.toNat_and, BitVec.toNat_ofNat, BitVec.toNat_ofNat, Nat.mod_eq_of_lt (by omega)]
  exact Nat.and_one_is_mod a
 rw [e]
 have := IntWalk.i64_in ((a % 2 : Nat) : Int) (by omega)
 rw [this]
 omega
theorem ov_and1 {m : Int} (ho : o.op = .binOp .and T x y U) (hx : Fr.ev F x = some (.int .i64 m)) (hy : Fr.ev F y = some (.int .i64 1)) (hm : 0 ≤ m ∧ m < 4611686018427387904) : OpV P N o F w (.int .i64 (m % 2)) :=
 ov_bin ho hx hy (by
  have := i64_and1 m hm.1 hm.2
  simp [binOp, Op.intBits, IntKind.bits]
  exact this)
theorem ov_shl1 {k : IntKind} {s : Nat} (ho : o.op = .binOp .shl T x y U) (hx : Fr.ev F x = some (.int .i64 1)) (hy : Fr.ev F y = some (.int k (s : Int))) (hs : s ≤ 40) : OpV P N o F w (.int .i64 ((2 ^ s : Nat) : Int)) := by
 refine ov_bin ho hx hy ?_
 have h1 : (2 : Nat) ^ s ≤ 2 ^ 40 := Nat.pow_le_pow_right (by decide) hs
 have h2 : (2 : Nat) ^ 40 = 1099511627776 := by decide
 have h3 : ((2 : Int)) ^ s = ((2 ^ s : Nat) : Int) := by rw [Int.natCast_pow]; rfl
 have h4 : IntKind.i64.wrap ((2 ^ s : Nat) : Int) = ((2 ^ s : Nat) : Int) := by
  obtain ⟨q, hq⟩ : ∃ q : Nat, q = 2 ^ s := ⟨_, rfl⟩
  rw [← hq] at h1 ⊢
  exact IntWalk.i64_in _ (by omega)
 have h5 : ¬ (s : Int) < 0 := by omega
 have h6 : min s 64 = s := by omega
 simp only [binOp, Op.shift, IntKind.bits, if_neg h5, Int.toNat_natCast, h6, Int.one_mul, h3, h4]
 rfl
theorem ov_shrI {k : IntKind} {a s : Nat} (ho : o.op = .binOp .shr T x y U) (hx : Fr.ev F x = some (.int .i64 (a : Int))) (hy : Fr.ev F y = some (.int k (s : Int))) (hs : s ≤ 40) : OpV P N o F w (.int .i64 ((a / 2 ^ s : Nat) : Int)) := by
 refine ov_bin ho hx hy ?_
 have h3 : ((2 : Int)) ^ s = ((2 ^ s : Nat) : Int) := by rw [Int.natCast_pow]; rfl
 have h5 : ¬ (s : Int) < 0 := by omega
 have h6 : min s 64 = s := by omega
 have h7 : (a : Int).fdiv ((2 ^ s : Nat) : Int) = ((a / 2 ^ s : Nat) : Int) := by rw [Int.fdiv_eq_ediv_of_nonneg _ (Int.natCast_nonneg _), Int.natCast_ediv]
 simp only [binOp, Op.shift, IntKind.bits, if_neg h5, Int.toNat_natCast, h6, h3, h7]
 rfl
end
def bitI (t : Nat) (i : Int) : Prop := t / 2 ^ i.toNat % 2 = 1
def membL (t : Nat) : Nat → List Int
 | 0 => []
 | k + 1 => if t / 2 ^ k % 2 = 1 then membL t k ++ [(k : Int)] else membL t k
theorem membL_mem {t : Nat} {x : Int} : ∀ {k : Nat}, x ∈ membL t k ↔ (0 ≤ x ∧ x < k) ∧ bitI t x
 | 0 => by
  constructor
  ·intro h; cases h
  ·rintro ⟨⟨h0, h1⟩, _⟩; omega
 | k + 1 => by
  unfold membL
  split
  ·rename_i e
   rw [List.mem_append, membL_mem (k := k), List.mem_singleton]
   constructor
   ·rintro (⟨h1, h2⟩ | rfl)
    ·exact ⟨by omega, h2⟩
    ·exact ⟨by omega, e⟩
   ·rintro ⟨h1, h2⟩
    by_cases c : x = k
    ·exact .inr c
    ·exact .inl ⟨by omega, h2⟩
  ·rename_i e
   rw [membL_mem (k := k)]
   constructor
   ·rintro ⟨h1, h2⟩; exact ⟨by omega, h2⟩
   ·rintro ⟨h1, h2⟩
    by_cases c : x = k
    ·rw [c] at h2; exact absurd h2 e
    ·exact ⟨by omega, h2⟩
theorem membL_len (t : Nat) : ∀ k : Nat, (membL t k).length ≤ k
 | 0 => Nat.le_refl _
 | k + 1 => by
  have := membL_len t k
  unfold membL
  split
  ·rw [List.length_append]; simp only [List.length_singleton]; omega
  ·omega
theorem membL_inc (t : Nat) : ∀ k : Nat, (membL t k).Pairwise (· < ·)
 | 0 => .nil
 | k + 1 => by
  unfold membL
  split
  ·refine List.pairwise_append.2 ⟨membL_inc t k, List.pairwise_singleton _ _, fun a ha b hb => ?_⟩
   rw [List.mem_singleton] at hb
   have := (membL_mem.1 ha).1.2
   omega
  ·exact membL_inc t k
theorem membL_memb (t n : Nat) : Memb n (membL t n).length (enL (membL t n)) := by
 refine ⟨fun j j0 j1 => (membL_mem.1 (enL_mem j0 j1)).1, fun j j0 j1 => ?_⟩
 have h := List.pairwise_iff_getElem.1 (membL_inc t n) j.toNat (j + 1).toNat (by omega) (by omega) (by omega)
 unfold enL
 rw [List.getD_eq_getElem?_getD, List.getD_eq_getElem?_getD, List.getElem?_eq_getElem (by omega), List.getElem?_eq_getElem (by omega)]
 exact h
def AnyCoal (n : Nat) (lk : Int → Int → Int) (l : Int → Int) : Prop := ∃ t : Nat, (1 ≤ t ∧ t < 2 ^ n) ∧ Coal lk l (InI (enL (membL t n)) (membL t n).length)
end Go.Proofs.Ytlldeifbfpmbaaa
set_option maxRecDepth 100000
namespace Go.Proofs.Ytlldeifbfpmbaaa
open Go.RowKit Go.Proofs Go.MapKept
theorem membL_yes {t k : Nat} (h : t / 2 ^ k % 2 = 1) : membL t (k + 1) = membL t k ++ [(k : Int)] := if_pos h
theorem membL_no {t k : Nat} (h : ¬ t / 2 ^ k % 2 = 1) : membL t (k + 1) = membL t k := if_neg h
theorem bit_of {t k : Nat} : ((t / 2 ^ k : Nat) : Int) % 2 = 1 ↔ t / 2 ^ k % 2 = 1 := by
 generalize t / 2 ^ k = q
 omega
end Go.Proofs.Ytlldeifbfpmbaaa
