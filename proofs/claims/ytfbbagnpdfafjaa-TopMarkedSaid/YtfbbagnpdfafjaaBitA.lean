import Derived.Test.YtfbbagnpdfafjaaRul
import Derived.Laws.Externs
import Derived.Lib.Mul64
import Derived.Laws.Bits64b
set_option maxRecDepth 100000
namespace Go.Proofs.Ytfbbagnpdfafjaa
open Go.RowKit Go.Proofs
section
variable {P : Program} {N : Nat} {o : Oper} {F : Fr} {w : World} {T U : TypeId} {x y : Operand}
theorem nv {k : IntKind} {z z' : Int} (h : OpV P N o F w (.int k z)) (e : z = z') : OpV P N o F w (.int k z') := e ▸ h
theorem wN (a : Nat) (h : a < 18446744073709551616) : IntKind.u64.wrap (a : Int) = (a : Int) := by rw [IntKind.wrap_u64]; omega
theorem wM (a : Nat) : IntKind.u64.wrap (a : Int) = ((a % 18446744073709551616 : Nat) : Int) := by rw [IntKind.wrap_u64]; omega
theorem wMul {a b : Nat} (h : a * b < 18446744073709551616) : IntKind.u64.wrap ((a : Int) * (b : Int)) = ((a * b : Nat) : Int) := by rw [← Int.natCast_mul]; exact wN _ h
theorem wMulM (a b : Nat) : IntKind.u64.wrap ((a : Int) * (b : Int)) = ((a * b % 18446744073709551616 : Nat) : Int) := by rw [← Int.natCast_mul]; exact wM _
theorem wAdd {a b : Nat} (h : a + b < 18446744073709551616) : IntKind.u64.wrap ((a : Int) + (b : Int)) = ((a + b : Nat) : Int) := by rw [← Int.natCast_add]; exact wN _ h
theorem wSub {a b : Nat} (h : b ≤ a) (h2 : a < 18446744073709551616) : IntKind.u64.wrap ((a : Int) - (b : Int)) = ((a - b : Nat) : Int) := by rw [show (a : Int) - b = ((a - b : Nat) : Int) by omega]; exact wN _ (by omega)
theorem ov_orU {a b : Nat} (ho : o.op = .binOp .or T x y U) (hx : Fr.ev F x = some (.int .u64 (a : Int))) (hy : Fr.ev F y = some (.int .u64 (b : Int))) (ha : a < 18446744073709551616) (hb : b < 18446744073709551616) : OpV P N o F w (.int .u64 ((a ||| b : Nat) : Int)) := by
 refine ov_bin ho hx hy ?_
 have h := bits_or_u64_nat a b ha hb
 simp only [binOp, Op.intBits]
 rw [← h]
 rfl
theorem ov_shlU {a s : Nat} {k : IntKind} (ho : o.op = .binOp .shl T x y U) (hx : Fr.ev F x = some (.int .u64 (a : Int))) (hy : Fr.ev F y = some (.int k (s : Int))) (hs : s ≤ 64) : OpV P N o F w (.int .u64 ((a * 2 ^ s % 18446744073709551616 : Nat) : Int)) := by
 refine ov_bin ho hx hy ?_
 have h := shift_shl_u64 k (a : Int) (s : Int) (by omega) (by omega)
 rw [binOp_shl, h, Int.toNat_natCast, show ((a : Int) * 2 ^ s) = ((a * 2 ^ s : Nat) : Int) by rw [Int.natCast_mul, Int.natCast_pow]; rfl, wM]
 rfl
theorem ov_shrU {a s : Nat} {k : IntKind} (ho : o.op = .binOp .shr T x y U) (hx : Fr.ev F x = some (.int .u64 (a : Int))) (hy : Fr.ev F y = some (.int k (s : Int))) (hs : s ≤ 64) : OpV P N o F w (.int .u64 ((a / 2 ^ s : Nat) : Int)) := by
 refine ov_bin ho hx hy ?_
 have h := shift_shr_u64 k (a : Int) (s : Int) (by omega) (by omega)
 rw [binOp_shr, h, Int.toNat_natCast, show ((a : Int) / 2 ^ s) = ((a / 2 ^ s : Nat) : Int) by rw [Int.natCast_ediv, Int.natCast_pow]; rfl]
 rfl
theorem ov_quoN {a b : Nat} (ho : o.op = .binOp .quo T x y U) (hx : Fr.ev F x = some (.int .u64 (a : Int))) (hy : Fr.ev F y = some (.int .u64 (b : Int))) (ha : a < 18446744073709551616) (hb : 0 < b) : OpV P N o F w (.int .u64 ((a / b : Nat) : Int)) :=
 nv (ov_quoU ho hx hy (by omega) (by omega)) (Int.natCast_ediv a b).symm
theorem ov_remN {a b : Nat} (ho : o.op = .binOp .rem T x y U) (hx : Fr.ev F x = some (.int .u64 (a : Int))) (hy : Fr.ev F y = some (.int .u64 (b : Int))) (hb : 0 < b) : OpV P N o F w (.int .u64 ((a % b : Nat) : Int)) :=
 nv (ov_rem ho hx hy (by omega) (by omega)) (Int.natCast_emod a b).symm
theorem ov_andN {a : Nat} (ho : o.op = .binOp .and T x y U) (hx : Fr.ev F x = some (.int .u64 (a : Int))) (hy : Fr.ev F y = some (.int .u64 4294967295)) (ha : a < 18446744073709551616) : OpV P N o F w (.int .u64 ((a % 4294967296 : Nat) : Int)) :=
 nv (ov_and32 ho hx hy (by omega)) (by omega)
theorem ov_shr32N {a : Nat} {k : IntKind} (ho : o.op = .binOp .shr T x y U) (hx : Fr.ev F x = some (.int .u64 (a : Int))) (hy : Fr.ev F y = some (.int k 32)) : OpV P N o F w (.int .u64 ((a / 4294967296 : Nat) : Int)) :=
 nv (ov_shr32 ho hx hy) (by omega)
end
theorem mul64_any (x y : Nat) (w : World) (hx : x < 18446744073709551616) (hy : y < 18446744073709551616) :
  Calls Try.prog 126 #[.int .u64 (x : Int), .int .u64 (y : Int)] w fun e w' => e = .returned (.tuple #[.int .u64 ((x * y / 18446744073709551616 : Nat) : Int), .int .u64 ((x * y % 18446744073709551616 : Nat) : Int)]) ∧ w' = w := by
 obtain ⟨bd, bt, bw, hhi⟩ := Lib.mul64_hi x y hx hy
 have ba := Lib.half_mul_le (a := x / 4294967296) (b := y / 4294967296) (by omega) (by omega)
 have bb := Lib.half_mul_le (a := x / 4294967296) (b := y % 4294967296) (by omega) (by omega)
 have bc := Lib.half_mul_le (a := x % 4294967296) (b := y / 4294967296) (by omega) (by omega)
 refine calls_of_run (F := [(0, _), (1, _)]) Try.func126 rfl Try.ntmps126 rfl rfl ?_
 have hO0 := Own.init w
 refine run_seq <| run_region <| rl_v rfl rfl rfl (ov_assign rfl rfl) <| rl_v rfl rfl rfl (ov_assign rfl rfl) <| rl_nil <| run_seq <| run_region <| rl_v rfl rfl rfl (ov_move rfl rfl) <| rl_v rfl rfl rfl (ov_andN rfl rfl rfl hx) <| rl_v rfl rfl rfl (ov_assign rfl rfl) <| rl_nil <| run_seq <| run_region <| rl_v rfl rfl rfl (ov_move rfl rfl) <| rl_v rfl rfl rfl (ov_shr32N rfl rfl rfl) <| rl_v rfl rfl rfl (ov_assign rfl rfl) <| rl_nil <| run_seq <| run_region <| rl_v rfl rfl rfl (ov_move rfl rfl) <| rl_v rfl rfl rfl (ov_andN rfl rfl rfl hy) <| rl_v rfl rfl rfl (ov_assign rfl rfl) <| rl_nil <| run_seq <| run_region <| rl_v rfl rfl rfl (ov_move rfl rfl) <| rl_v rfl rfl rfl (ov_shr32N rfl rfl rfl) <| rl_v rfl rfl rfl (ov_assign rfl rfl) <| rl_nil <| run_seq <| run_region <| rl_v rfl rfl rfl (ov_move rfl rfl) <| rl_v rfl rfl rfl (ov_move rfl rfl) <| rl_v rfl rfl rfl (nv (ov_mulw rfl rfl rfl) (wMul bd)) ?_
 refine rl_v rfl rfl rfl (ov_assign rfl rfl) <| rl_nil <| run_seq <| run_region <| rl_v rfl rfl rfl (ov_move rfl rfl) <| rl_v rfl rfl rfl (ov_move rfl rfl) <| rl_v rfl rfl rfl (nv (ov_mulw rfl rfl rfl) (wMul (by omega))) ?_
 refine rl_v rfl rfl rfl (ov_move rfl rfl) <| rl_v rfl rfl rfl (ov_shr32N rfl rfl rfl) <| rl_v rfl rfl rfl (nv (ov_addw rfl rfl rfl) (wAdd bt)) <| rl_v rfl rfl rfl (ov_assign rfl rfl) <| rl_nil <| run_seq <| run_region <| rl_v rfl rfl rfl (ov_move rfl rfl) <| rl_v rfl rfl rfl (ov_andN rfl rfl rfl bt) <| rl_v rfl rfl rfl (ov_assign rfl rfl) <| rl_nil <| run_seq <| run_region <| rl_v rfl rfl rfl (ov_move rfl rfl) <| rl_v rfl rfl rfl (ov_shr32N rfl rfl rfl) <| rl_v rfl rfl rfl (ov_assign rfl rfl) <| rl_nil <| run_seq <| run_region <| rl_v rfl rfl rfl (ov_move rfl rfl) <| rl_v rfl rfl rfl (ov_move rfl rfl) <| rl_v rfl rfl rfl (ov_move rfl rfl) <| rl_v rfl rfl rfl (nv (ov_mulw rfl rfl rfl) (wMul (by omega))) ?_
 refine rl_v rfl rfl rfl (nv (ov_addw rfl rfl rfl) (wAdd bw)) <| rl_v rfl rfl rfl (ov_assign rfl rfl) <| rl_nil <| run_seq <| run_region <| rl_v rfl rfl rfl (ov_move rfl rfl) <| rl_v rfl rfl rfl (ov_move rfl rfl) <| rl_v rfl rfl rfl (nv (ov_mulw rfl rfl rfl) (wMul (by omega))) ?_
 refine rl_v rfl rfl rfl (ov_move rfl rfl) <| rl_v rfl rfl rfl (nv (ov_addw rfl rfl rfl) (wAdd (by omega))) ?_
 refine rl_v rfl rfl rfl (ov_move rfl rfl) <| rl_v rfl rfl rfl (ov_shr32N rfl rfl rfl) <| rl_v rfl rfl rfl (nv (ov_addw rfl rfl rfl) (wAdd (by omega))) ?_
 refine rl_v rfl rfl rfl (ov_assign rfl rfl) <| rl_nil <| run_seq <| run_region <| rl_v rfl rfl rfl (ov_move rfl rfl) <| rl_v rfl rfl rfl (ov_move rfl rfl) <| rl_v rfl rfl rfl (nv (ov_mulw rfl rfl rfl) (wMulM _ _)) <| rl_v rfl rfl rfl (ov_assign rfl rfl) <| rl_nil <| run_ret Try.func126 (res2 Try.results126 rfl rfl) ?_
 exact ⟨by rw [hhi], rfl⟩
section
variable {N : Nat} {o : Oper} {F : Fr} {w : World}
theorem ov_add64 {x y c : Operand} {T : Array TypeId} {a b : Nat} {z : Int} (ho : o.op = .call { callee := .value (.func 127), args := #[x, y, c], argTypes := T }) (hx : Fr.ev F x = some (.int .u64 (a : Int))) (hy : Fr.ev F y = some (.int .u64 (b : Int))) (hc : Fr.ev F c = some (.int .u64 z)) (hz : z = 0) :
  OpV Try.prog N o F w (.tuple #[.int .u64 (((a + b) % 18446744073709551616 : Nat) : Int), .int .u64 (((a + b) / 18446744073709551616 : Nat) : Int)]) := by
 subst hz
 intro st ha
 have hrun := run_callFunc_extern (P := Try.prog) Try.func127 (by kernel_rfl) (by kernel_rfl) (by kernel_rfl) (e := add64Entry) (by kernel_rfl) #[.int .u64 (a : Int), .int .u64 (b : Int), .int .u64 0] w
 rw [run_add64 (a : Int) (b : Int) 0 (by omega) (by omega) (by omega) (by omega)] at hrun
 have e1 : ((a : Int) + b + 0) % 18446744073709551616 = (((a + b) % 18446744073709551616 : Nat) : Int) := by omega
 have e2 : ((a : Int) + b + 0) / 18446744073709551616 = (((a + b) / 18446744073709551616 : Nat) : Int) := by omega
 rw [e1, e2] at hrun
 unfold execOp
 have hf : Fr.ev F (.func 127) = some (.func (.func 127) #[] #[]) := rfl
 simp only [ho, resolve, Sem.run_bind, Deferred.ofValue, ha.ev hf, ha.ev hx, ha.ev hy, ha.ev hc, List.map_toArray, List.map_cons, List.map_nil]
 simp [invoke, Result.andThen, hrun]
def len8 (x : Nat) : Nat := if x = 0 then 0 else if x < 2 then 1 else if x < 4 then 2 else if x < 8 then 3 else if x < 16 then 4 else if x < 32 then 5 else if x < 64 then 6 else if x < 128 then 7 else 8
theorem ov_len8 {o : Oper} {x : Operand} {T : TypeId} {s : ByteArray} {a : Nat} (ho : o.op = .index T (.const (.string s)) x) (hT : Try.prog.underlying T = some .string) (hs : (s.data.toList.map fun c => c.toNat) = (List.range 256).map len8) (hx : Fr.ev F x = some (.int .u8 (a : Int))) (ha : a < 256) :
  OpV Try.prog N o F w (.int .u8 ((len8 a : Nat) : Int)) := by
 intro st hst
 have hl : s.data.toList.length = 256 := by have := congrArg List.length hs; rw [List.length_map, List.length_map, List.length_range] at this; exact this
 have hsz : s.size = 256 := by rw [← hl]; rfl
 have h := run_index_string (P := Try.prog) (w := w) T s .u8 (a : Int) hT
 have e : (s[a]'(by omega)).toNat = len8 a := by
  have h1 := congrArg (fun l => l[a]?) hs
  have h2 : s.data.toList[a]? = some (s[a]'(by omega)) := by rw [Array.getElem?_toList]; exact Array.getElem?_eq_getElem (by rw [← Array.length_toList]; omega)
  simp only [List.getElem?_map, h2, List.getElem?_range ha, Option.map_some, Option.some.injEq] at h1
  exact h1
 rw [dif_pos ⟨by omega, by omega⟩] at h
 have e2 : (s[(a : Int).toNat]'(by omega)).toNat = len8 a := e
 rw [e2] at h
 unfold execOp
 have hf : Fr.ev F (.const (.string s)) = some (.string s) := rfl
 simp [ho, hst.ev hf, hst.ev hx, h, Result.andThen]
end
theorem len8_ok (x : Nat) (h : x < 256) : x < 2 ^ len8 x ∧ (0 < x → 2 ^ (len8 x - 1) ≤ x) ∧ len8 x ≤ 8 ∧ (0 < x → 1 ≤ len8 x) := by
 unfold len8
 repeat' split
 all_goals omega
theorem len_fin {x n3 x3 : Nat} (h : x / 2 ^ n3 = x3) (h0 : 0 < x3) (h2 : x3 < 256) : 2 ^ (n3 + len8 x3 - 1) ≤ x ∧ x < 2 ^ (n3 + len8 x3) := by
 obtain ⟨a1, a2, _, a4⟩ := len8_ok x3 h2
 have a2 := a2 h0
 have a4 := a4 h0
 have hp : 0 < 2 ^ n3 := Nat.two_pow_pos n3
 constructor
 ·rw [show n3 + len8 x3 - 1 = (len8 x3 - 1) + n3 by omega, Nat.pow_add]
  refine Nat.le_trans (Nat.mul_le_mul_right _ a2) ?_
  rw [← h]
  exact Nat.div_mul_le_self x _
 ·rw [Nat.add_comm, Nat.pow_add]
  refine Nat.lt_of_lt_of_le ((Nat.div_lt_iff_lt_mul hp).1 (show x / 2 ^ n3 < x3 + 1 by omega)) ?_
  exact Nat.mul_le_mul_right _ a1
theorem div_sh {x n x1 k : Nat} (h : x / 2 ^ n = x1) : x / 2 ^ (n + k) = x1 / 2 ^ k := by rw [← h, Nat.div_div_eq_div_mul, Nat.pow_add]
theorem len64_any (x : Nat) (w : World) (hx : 0 < x) (hx2 : x < 18446744073709551616) :
  Calls Try.prog 146 #[.int .u64 (x : Int)] w fun e w' => ∃ n : Nat, e = .returned (iv n) ∧ w' = w ∧ 1 ≤ n ∧ n ≤ 64 ∧ 2 ^ (n - 1) ≤ x ∧ x < 2 ^ n := by
 refine calls_of_run (F := [(0, _)]) Try.func146 rfl Try.ntmps146 rfl rfl ?_
 have hO0 := Own.init w
 refine run_seq <| run_region <| rl_v rfl rfl rfl (ov_assign rfl rfl) <| rl_nil <| run_seq <| run_seq <| run_region <| rl_v rfl rfl rfl (ov_move rfl rfl) <| rl_v rfl rfl rfl (ov_geq rfl rfl rfl) <| rl_nil <| Run.keep [0, 2, 4] (F' := [(0, _), (2, _), (4, _)]) rfl <| run_join2 (fun (x1 : Nat) (n1 : Nat) => [(0, .int .u64 (x1 : Int)), (2, .int .i64 n1)]) [] (fun (x1 : Nat) (n1 : Nat) (w1 : World) => w1 = w ∧ 0 < x1 ∧ x1 < 4294967296 ∧ (n1 = 0 ∨ n1 = 32) ∧ x / 2 ^ n1 = x1) (fun hk2 => ?_) ?_
 ·first | refine run_cond_dec rfl (fun c1 => ?_) (fun c1 => ?_) | refine run_cond rfl (fun c1 => ?_) (fun c1 => ?_)
  ·refine run_seq <| run_region <| rl_v rfl rfl rfl (ov_move rfl rfl) <| rl_v rfl rfl rfl (ov_shr32N rfl rfl rfl) <| rl_v rfl rfl rfl (ov_assign rfl rfl) <| rl_nil <| run_region <| rl_v rfl rfl rfl (ov_assign rfl rfl) <| rl_nil ?_
   refine Run.use (hk2 (x / 4294967296) (32) _ ?_) (And.intro (by exact slot_int rfl (by first | omega)) (And.intro (by exact slot_int rfl (by first | omega)) trivial))
   exact ⟨rfl, by omega, by omega, .inr rfl, rfl⟩
  ·refine run_skip ?_
   refine Run.use (hk2 (x) (0) _ ?_) (And.intro (by exact slot_int rfl (by first | omega)) (And.intro (by exact slot_int rfl (by first | omega)) trivial))
   exact ⟨rfl, hx, by omega, .inl rfl, by simp⟩
 ·intro x1 n1 w1 hJw1
  obtain ⟨hw, h1, h2, h3, h4⟩ := hJw1
  show Run _ _ _ _ [(0, _), (2, _)] _ _
  refine run_seq <| run_seq <| run_region <| rl_v rfl rfl rfl (ov_move rfl rfl) <| rl_v rfl rfl rfl (ov_geq rfl rfl rfl) <| rl_nil <| Run.keep [0, 2, 8] (F' := [(0, _), (2, _), (8, _)]) rfl <| run_join2 (fun (x2 : Nat) (n2 : Nat) => [(0, .int .u64 (x2 : Int)), (2, .int .i64 n2)]) [] (fun (x2 : Nat) (n2 : Nat) (w3 : World) => w3 = w ∧ 0 < x2 ∧ x2 < 65536 ∧ n2 ≤ 48 ∧ x / 2 ^ n2 = x2) (fun hk4 => ?_) ?_
  ·first | refine run_cond_dec rfl (fun c2 => ?_) (fun c2 => ?_) | refine run_cond rfl (fun c2 => ?_) (fun c2 => ?_)
   ·refine run_seq <| run_region <| rl_v rfl rfl rfl (ov_move rfl rfl) <| rl_v rfl rfl rfl (ov_shrU (s := 16) rfl rfl rfl (by omega)) ?_
    refine rl_v rfl rfl rfl (ov_assign rfl rfl) <| rl_nil <| run_region <| rl_v rfl rfl rfl (ov_move rfl rfl) <| rl_v rfl rfl rfl (ov_add rfl rfl rfl (by omega)) ?_
    refine rl_v rfl rfl rfl (ov_assign rfl rfl) <| rl_nil ?_
    refine Run.use (hk4 (x1 / 2 ^ 16) (n1 + 16) _ ?_) (And.intro (by exact slot_int rfl (by first | omega)) (And.intro (by exact slot_int rfl (by first | omega)) trivial))
    exact ⟨hw, by omega, by omega, by omega, div_sh h4⟩
   ·refine run_skip ?_
    refine Run.use (hk4 (x1) (n1) _ ?_) (And.intro (by exact slot_int rfl (by first | omega)) (And.intro (by exact slot_int rfl (by first | omega)) trivial))
    exact ⟨hw, h1, by omega, by omega, h4⟩
  ·intro x2 n2 w3 hJw3
   obtain ⟨hw, g1, g2, g3, g4⟩ := hJw3
   show Run _ _ _ _ [(0, _), (2, _)] _ _
   refine run_seq <| run_seq <| run_region <| rl_v rfl rfl rfl (ov_move rfl rfl) <| rl_v rfl rfl rfl (ov_geq rfl rfl rfl) <| rl_nil <| Run.keep [0, 2, 14] (F' := [(0, _), (2, _), (14, _)]) rfl <| run_join2 (fun (x3 : Nat) (n3 : Nat) => [(0, .int .u64 (x3 : Int)), (2, .int .i64 n3)]) [] (fun (x3 : Nat) (n3 : Nat) (w5 : World) => w5 = w ∧ 0 < x3 ∧ x3 < 256 ∧ n3 ≤ 56 ∧ x / 2 ^ n3 = x3) (fun hk6 => ?_) ?_
   ·first | refine run_cond_dec rfl (fun c3 => ?_) (fun c3 => ?_) | refine run_cond rfl (fun c3 => ?_) (fun c3 => ?_)
    ·refine run_seq <| run_region <| rl_v rfl rfl rfl (ov_move rfl rfl) <| rl_v rfl rfl rfl (ov_shrU (s := 8) rfl rfl rfl (by omega)) ?_
     refine rl_v rfl rfl rfl (ov_assign rfl rfl) <| rl_nil <| run_region <| rl_v rfl rfl rfl (ov_move rfl rfl) <| rl_v rfl rfl rfl (ov_add rfl rfl rfl (by omega)) ?_
     refine rl_v rfl rfl rfl (ov_assign rfl rfl) <| rl_nil ?_
     refine Run.use (hk6 (x2 / 2 ^ 8) (n2 + 8) _ ?_) (And.intro (by exact slot_int rfl (by first | omega)) (And.intro (by exact slot_int rfl (by first | omega)) trivial))
     exact ⟨hw, by omega, by omega, by omega, div_sh g4⟩
    ·refine run_skip ?_
     refine Run.use (hk6 (x2) (n2) _ ?_) (And.intro (by exact slot_int rfl (by first | omega)) (And.intro (by exact slot_int rfl (by first | omega)) trivial))
     exact ⟨hw, g1, by omega, by omega, g4⟩
   ·intro x3 n3 w5 hJw5
    obtain ⟨hw, k1, k2, k3, k4⟩ := hJw5
    show Run _ _ _ _ [(0, _), (2, _)] _ _
    have hf := len_fin k4 k1 k2
    have hk := len8_ok x3 k2
    have hk4 := hk.2.2.2 k1
    refine run_seq <| run_region <| rl_v rfl rfl rfl (ov_move rfl rfl) <| rl_v rfl rfl rfl (ov_move rfl rfl) <| rl_v rfl rfl rfl (nv (ov_conv rfl Try.underlying90 Try.underlying5 rfl) (show IntKind.u8.wrap (x3 : Int) = (x3 : Int) from IntWalk.u8_in _ (by omega))) ?_
    refine rl_v rfl rfl rfl (ov_len8 rfl Try.underlying9 (by kernel_rfl) rfl k2) ?_
    refine rl_v rfl rfl rfl (nv (ov_conv rfl Try.underlying5 Try.underlying3 rfl) (show IntKind.i64.wrap ((len8 x3 : Nat) : Int) = ((len8 x3 : Nat) : Int) from IntWalk.i64_in _ (by omega))) ?_
    refine rl_v rfl rfl rfl (ov_add rfl rfl rfl (by omega)) ?_
    refine rl_v rfl rfl rfl (ov_assign rfl rfl) <| rl_nil <| run_ret Try.func146 (res1 Try.results146 rfl) ?_
    exact ⟨n3 + len8 x3, by rw [Int.natCast_add], hw, by omega, by omega, hf.1, hf.2⟩
theorem lead_any (x : Nat) (w : World) (hx : 0 < x) (hx2 : x < 18446744073709551616) :
  Calls Try.prog 141 #[.int .u64 (x : Int)] w fun e w' => ∃ s : Nat, e = .returned (iv s) ∧ w' = w ∧ s ≤ 63 ∧ 9223372036854775808 ≤ x * 2 ^ s ∧ x * 2 ^ s < 18446744073709551616 := by
 refine calls_of_run (F := [(0, _)]) Try.func141 rfl Try.ntmps141 rfl rfl ?_
 have hO0 := Own.init w
 refine run_seq <| run_region <| rl_v rfl rfl rfl (ov_assign rfl rfl) <| rl_nil <| run_seq <| run_region <| rl_v rfl rfl rfl (ov_move rfl rfl) ?_
 refine rl_call callable_146 rfl rfl rfl rfl rfl rfl (len64_any x w hx hx2) (fun e1 w2 hp3 => ?_)
 obtain ⟨n, rfl, hw, h1, h2, h3, h4⟩ := hp3
 refine ⟨_, rfl, ?_⟩
 have hp : 2 ^ (n - 1) * 2 ^ (64 - n) = 9223372036854775808 := by rw [← Nat.pow_add, show n - 1 + (64 - n) = 63 by omega]
 have hq : 2 ^ n * 2 ^ (64 - n) = 18446744073709551616 := by rw [← Nat.pow_add, show n + (64 - n) = 64 by omega]
 have a1 := Nat.mul_le_mul_right (2 ^ (64 - n)) h3
 have a2 := Nat.mul_lt_mul_of_pos_right h4 (Nat.two_pow_pos (64 - n))
 refine rl_v rfl rfl rfl (ov_sub rfl rfl rfl (by omega)) ?_
 refine rl_v rfl rfl rfl (ov_assign rfl rfl) <| rl_nil <| run_ret Try.func141 (res1 Try.results141 rfl) ?_
 exact ⟨64 - n, by rw [show ((64 - n : Nat) : Int) = 64 - (n : Int) by omega], hw, by omega, by omega, by omega⟩
end Go.Proofs.Ytfbbagnpdfafjaa
