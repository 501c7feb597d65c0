import Derived.Test.YtlldeifbfpmbaaaArr
import Derived.Test.YtlldeifbfpmbaaaFnC
import Derived.Test.YtlldeifbfpmbaaaFeF
set_option maxRecDepth 100000
namespace Go.Proofs.Ytlldeifbfpmbaaa
open Go.RowKit Go.Proofs
section
variable {P : Program} {N : Nat} {o : Oper} {F : Fr} {w : World} {T U : TypeId} {x y : Operand}
theorem i64_and1 (m : Int) (h0 : 0 ≤ m) (h1 : m < 4611686018427387904) : IntKind.i64.wrap (((BitVec.ofInt 64 m &&& BitVec.ofInt 64 1).toNat : Nat) : Int) = m % 2 := by
 obtain ⟨a, rfl⟩ := Int.eq_ofNat_of_zero_le h0
 have e1 : BitVec.ofInt 64 (a : Int) = BitVec.ofNat 64 a := BitVec.ofInt_natCast 64 a
 have e2 : BitVec.ofInt 64 1 = BitVec.ofNat 64 1 := rfl
 have e : (BitVec.ofInt 64 (a : Int) &&& BitVec.ofInt 64 1).toNat = a % 2 := by
  rw [e1, e2, BitVec.toNat_and, BitVec.toNat_ofNat, BitVec.toNat_ofNat, Nat.mod_eq_of_lt (by omega)]
  exact Nat.and_one_is_mod a
 rw [e]
 have := IntWalk.i64_in ((a % 2 : Nat) : Int) (by omega)
 rw [this]
 omega
theorem ov_and1 {m : Int} (ho : o.op = .binOp .and T x y U) (hx : Fr.ev F x = some (.int .i64 m)) (hy : Fr.ev F y = some (.int .i64 1)) (hm : 0 ≤ m ∧ m < 4611686018427387904) : OpV P N o F w (.int .i64 (m % 2)) :=
 ov_bin ho hx hy (by
  have := i64_and1 m hm.1 hm.2
  simp [binOp, Op.intBits, IntKind.bits]
  exact this)
theorem ov_shl1 {k : IntKind} {s : Nat} (ho : o.op = .binOp .shl T x y U) (hx : Fr.ev F x = some (.int .i64 1)) (hy : Fr.ev F y = some (.int k (s : Int))) (hs : s ≤ 40) : OpV P N o F w (.int .i64 ((2 ^ s : Nat) : Int)) := by
 refine ov_bin ho hx hy ?_
 have h1 : (2 : Nat) ^ s ≤ 2 ^ 40 := Nat.pow_le_pow_right (by decide) hs
 have h2 : (2 : Nat) ^ 40 = 1099511627776 := by decide
 have h3 : ((2 : Int)) ^ s = ((2 ^ s : Nat) : Int) := by rw [Int.natCast_pow]; rfl
 have h4 : IntKind.i64.wrap ((2 ^ s : Nat) : Int) = ((2 ^ s : Nat) : Int) := by
  obtain ⟨q, hq⟩ : ∃ q : Nat, q = 2 ^ s := ⟨_, rfl⟩
  rw [← hq] at h1 ⊢
  exact IntWalk.i64_in _ (by omega)
 have h5 : ¬ (s : Int) < 0 := by omega
 have h6 : min s 64 = s := by omega
 simp only [binOp, Op.shift, IntKind.bits, if_neg h5, Int.toNat_natCast, h6, Int.one_mul, h3, h4]
 rfl
theorem ov_shrI {k : IntKind} {a s : Nat} (ho : o.op = .binOp .shr T x y U) (hx : Fr.ev F x = some (.int .i64 (a : Int))) (hy : Fr.ev F y = some (.int k (s : Int))) (hs : s ≤ 40) : OpV P N o F w (.int .i64 ((a / 2 ^ s : Nat) : Int)) := by
 refine ov_bin ho hx hy ?_
 have h3 : ((2 : Int)) ^ s = ((2 ^ s : Nat) : Int) := by rw [Int.natCast_pow]; rfl
 have h5 : ¬ (s : Int) < 0 := by omega
 have h6 : min s 64 = s := by omega
 have h7 : (a : Int).fdiv ((2 ^ s : Nat) : Int) = ((a / 2 ^ s : Nat) : Int) := by rw [Int.fdiv_eq_ediv_of_nonneg _ (Int.natCast_nonneg _), Int.natCast_ediv]
 simp only [binOp, Op.shift, IntKind.bits, if_neg h5, Int.toNat_natCast, h6, h3, h7]
 rfl
end
def bitI (t : Nat) (i : Int) : Prop := t / 2 ^ i.toNat % 2 = 1
def membL (t : Nat) : Nat → List Int
 | 0 => []
 | k + 1 => if t / 2 ^ k % 2 = 1 then membL t k ++ [(k : Int)] else membL t k
theorem membL_mem {t : Nat} {x : Int} : ∀ {k : Nat}, x ∈ membL t k ↔ (0 ≤ x ∧ x < k) ∧ bitI t x
 | 0 => by
  constructor
  ·intro h; cases h
  ·rintro ⟨⟨h0, h1⟩, _⟩; omega
 | k + 1 => by
  unfold membL
  split
  ·rename_i e
   rw [List.mem_append, membL_mem (k := k), List.mem_singleton]
   constructor
   ·rintro (⟨h1, h2⟩ | rfl)
    ·exact ⟨by omega, h2⟩
    ·exact ⟨by omega, e⟩
   ·rintro ⟨h1, h2⟩
    by_cases c : x = k
    ·exact .inr c
    ·exact .inl ⟨by omega, h2⟩
  ·rename_i e
   rw [membL_mem (k := k)]
   constructor
   ·rintro ⟨h1, h2⟩; exact ⟨by omega, h2⟩
   ·rintro ⟨h1, h2⟩
    by_cases c : x = k
    ·rw [c] at h2; exact absurd h2 e
    ·exact ⟨by omega, h2⟩
theorem membL_len (t : Nat) : ∀ k : Nat, (membL t k).length ≤ k
 | 0 => Nat.le_refl _
 | k + 1 => by
  have := membL_len t k
  unfold membL
  split
  ·rw [List.length_append]; simp only [List.length_singleton]; omega
  ·omega
theorem membL_inc (t : Nat) : ∀ k : Nat, (membL t k).Pairwise (· < ·)
 | 0 => .nil
 | k + 1 => by
  unfold membL
  split
  ·refine List.pairwise_append.2 ⟨membL_inc t k, List.pairwise_singleton _ _, fun a ha b hb => ?_⟩
   rw [List.mem_singleton] at hb
   have := (membL_mem.1 ha).1.2
   omega
  ·exact membL_inc t k
theorem membL_memb (t n : Nat) : Memb n (membL t n).length (enL (membL t n)) := by
 refine ⟨fun j j0 j1 => (membL_mem.1 (enL_mem j0 j1)).1, fun j j0 j1 => ?_⟩
 have h := List.pairwise_iff_getElem.1 (membL_inc t n) j.toNat (j + 1).toNat (by omega) (by omega) (by omega)
 unfold enL
 rw [List.getD_eq_getElem?_getD, List.getD_eq_getElem?_getD, List.getElem?_eq_getElem (by omega), List.getElem?_eq_getElem (by omega)]
 exact h
theorem membL_in {t n : Nat} {x : Int} : InI (enL (membL t n)) (membL t n).length x ↔ (0 ≤ x ∧ x < n) ∧ bitI t x := by
 rw [← membL_mem]
 constructor
 ·rintro ⟨j, ⟨j0, j1⟩, e⟩
  rw [← e]; exact enL_mem j0 j1
 ·intro h
  obtain ⟨j, j0, j1, e⟩ := enL_of_mem h
  exact ⟨j, ⟨j0, j1⟩, e⟩
theorem set_ex (I : Int → Prop) : ∀ n : Nat, ∃ t : Nat, t < 2 ^ n ∧ ∀ x : Int, 0 ≤ x → x < n → (bitI t x ↔ I x)
 | 0 => ⟨0, by decide, fun x x0 x1 => by omega⟩
 | n + 1 => by
  obtain ⟨t, ht, hb⟩ := set_ex I n
  have hlow : ∀ (b : Nat) (x : Int), 0 ≤ x → x < n → (bitI (t + b * 2 ^ n) x ↔ bitI t x) := fun b x x0 x1 => by
   unfold bitI
   have e : 2 ^ n = 2 ^ (n - x.toNat - 1) * 2 * 2 ^ x.toNat := by
    rw [← Nat.pow_succ, ← Nat.pow_add]
    congr 1
    omega
   have e2 : t + b * 2 ^ n = t + 2 ^ x.toNat * (b * 2 ^ (n - x.toNat - 1) * 2) := by
    rw [e, Nat.mul_comm (2 ^ x.toNat)]
    simp only [Nat.mul_assoc]
   rw [e2, Nat.add_mul_div_left _ _ (Nat.two_pow_pos _), Nat.add_mul_mod_self_right]
  by_cases c : I n
  ·refine ⟨t + 1 * 2 ^ n, by rw [Nat.pow_succ]; omega, fun x x0 x1 => ?_⟩
   by_cases d : x = n
   ·rw [d]
    refine ⟨fun _ => c, fun _ => ?_⟩
    unfold bitI
    rw [show ((n : Int)).toNat = n by omega, Nat.add_mul_div_right _ _ (Nat.two_pow_pos _), Nat.div_eq_of_lt ht]
   ·rw [hlow 1 x x0 (by omega)]; exact hb x x0 (by omega)
  ·refine ⟨t, by rw [Nat.pow_succ]; omega, fun x x0 x1 => ?_⟩
   by_cases d : x = n
   ·rw [d]
    refine ⟨fun h => ?_, fun h => absurd h c⟩
    unfold bitI at h
    rw [show ((n : Int)).toNat = n by omega, Nat.div_eq_of_lt ht] at h
    exact absurd h (by decide)
   ·exact hb x x0 (by omega)
theorem Coal.congr {lk : Int → Int → Int} {l : Int → Int} {I J : Int → Prop} (h : ∀ x, I x ↔ J x) (hc : Coal lk l I) : Coal lk l J := by
 have e : I = J := funext fun x => propext (h x)
 rw [← e]; exact hc
def AnyCoal (n : Nat) (lk : Int → Int → Int) (l : Int → Int) : Prop := ∃ t : Nat, (1 ≤ t ∧ t < 2 ^ n) ∧ Coal lk l (InI (enL (membL t n)) (membL t n).length)
theorem AnyCoal.of {n : Nat} {lk : Int → Int → Int} {l : Int → Int} {I : Int → Prop} (hI : ∀ x, I x → 0 ≤ x ∧ x < n) (h : Coal lk l I) : AnyCoal n lk l := by
 obtain ⟨t, ht, hb⟩ := set_ex I n
 have e : ∀ x, I x ↔ InI (enL (membL t n)) (membL t n).length x := fun x => by
  rw [membL_in]
  exact ⟨fun hx => ⟨hI x hx, (hb x (hI x hx).1 (hI x hx).2).2 hx⟩, fun ⟨hr, hx⟩ => (hb x hr.1 hr.2).1 hx⟩
 have ht0 : t ≠ 0 := fun e0 => by
  obtain ⟨w, hw, _⟩ := h
  have := ((membL_in.1 ((e w).1 hw))).2
  rw [e0] at this
  unfold bitI at this
  rw [Nat.zero_div] at this
  exact absurd this (by decide)
 exact ⟨t, ⟨by omega, ht⟩, h.congr e⟩
end Go.Proofs.Ytlldeifbfpmbaaa
