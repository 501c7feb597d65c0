import Derived.Test.YtbepolognfdkeaaGreatProg
import Derived.Test.YtbepolognfdkeaaGreatStr
import Derived.KernelRfl
import Derived.Scope
namespace Go.Proofs.YtbepolognfdkeaaGreat
theorem mixed : Tryz.prog.follows .mixedOrders = true := by kernel_rfl
theorem info_2 : (Tryz.prog.info? 2).map (fun i => (i.zero, i.size, i.bytes)) = some (some (.int .i64 0), 1, 8) := by kernel_rfl
theorem info_3 : (Tryz.prog.info? 3).map (fun i => (i.zero, i.size, i.bytes)) = some (some (.int .i64 0), 1, 8) := by kernel_rfl
theorem info_4 : (Tryz.prog.info? 4).map (fun i => (i.zero, i.size, i.bytes)) = some (some (.bool false), 1, 1) := by kernel_rfl
theorem info_36 : (Tryz.prog.info? 36).map (fun i => (i.zero, i.size, i.bytes)) = some (some (.slice none 0 0), 1, 24) := by kernel_rfl
theorem info_58 : (Tryz.prog.info? 58).map (fun i => (i.zero, i.size, i.bytes)) = some (some (.agg #[.int .i64 0, .int .i64 0, .int .i64 0, .int .i64 0]), 4, 32) := by kernel_rfl
theorem info_59 : (Tryz.prog.info? 59).map (fun i => (i.zero, i.size, i.bytes)) = some (some (.slice none 0 0), 1, 24) := by kernel_rfl
theorem info_79 : (Tryz.prog.info? 79).map (fun i => (i.zero, i.size, i.bytes)) = some (some (.agg #[.int .i64 0, .int .i64 0]), 2, 16) := by kernel_rfl
theorem info_118 : (Tryz.prog.info? 118).map (fun i => (i.zero, i.size, i.bytes)) = some (some (.agg #[.int .i64 0, .int .i64 0]), 2, 16) := by kernel_rfl
theorem info_180 : (Tryz.prog.info? 180).map (fun i => (i.zero, i.size, i.bytes)) = some (some (.agg #[.int .i64 0, .int .i64 0, .int .i64 0, .int .i64 0]), 4, 32) := by kernel_rfl
theorem zero_3 : (Tryz.prog.info? 3).map (·.zero) = some (some (.int .i64 0)) := by kernel_rfl
theorem zero_36 : (Tryz.prog.info? 36).map (·.zero) = some (some (.slice none 0 0)) := by kernel_rfl
theorem zero_58 : (Tryz.prog.info? 58).map (·.zero) = some (some (.agg #[.int .i64 0, .int .i64 0, .int .i64 0, .int .i64 0])) := by kernel_rfl
theorem lay_58 : layoutOf Tryz.prog 58 = some ([.int .i64 0, .int .i64 0, .int .i64 0, .int .i64 0].toArray, [(0, 1), (1, 1), (2, 1), (3, 1)].toArray) := by kernel_rfl
theorem zero_59 : (Tryz.prog.info? 59).map (·.zero) = some (some (.slice none 0 0)) := by kernel_rfl
theorem zero_69 : (Tryz.prog.info? 69).map (·.zero) = some (some (.slice none 0 0)) := by kernel_rfl
theorem lay_71 : layoutOf Tryz.prog 71 = some ([.slice none 0 0, .slice none 0 0, .slice none 0 0, .slice none 0 0, .int .i64 0].toArray, [(0, 1), (1, 1), (2, 1), (3, 1), (4, 1)].toArray) := by kernel_rfl
theorem zero_79 : (Tryz.prog.info? 79).map (·.zero) = some (some (.agg #[.int .i64 0, .int .i64 0])) := by kernel_rfl
theorem zero_85 : (Tryz.prog.info? 85).map (·.zero) = some (some (.nilFunc)) := by kernel_rfl
theorem zero_92 : (Tryz.prog.info? 92).map (·.zero) = some (some (.slice none 0 0)) := by kernel_rfl
theorem lay_98 : layoutOf Tryz.prog 98 = some ([.slice none 0 0].toArray, [(0, 1)].toArray) := by kernel_rfl
theorem zero_118 : (Tryz.prog.info? 118).map (·.zero) = some (some (.agg #[.int .i64 0, .int .i64 0])) := by kernel_rfl
theorem lay_118 : layoutOf Tryz.prog 118 = some ([.int .i64 0, .int .i64 0].toArray, [(0, 1), (1, 1)].toArray) := by kernel_rfl
theorem lay_178 : layoutOf Tryz.prog 178 = some ([.slice none 0 0, .slice none 0 0].toArray, [(0, 1), (1, 1)].toArray) := by kernel_rfl
theorem zero_180 : (Tryz.prog.info? 180).map (·.zero) = some (some (.agg #[.int .i64 0, .int .i64 0, .int .i64 0, .int .i64 0])) := by kernel_rfl
theorem lay_180 : layoutOf Tryz.prog 180 = some ([.int .i64 0, .int .i64 0, .int .i64 0, .int .i64 0].toArray, [(0, 1), (1, 1), (2, 1), (3, 1)].toArray) := by kernel_rfl
theorem lay_185 : layoutOf Tryz.prog 185 = some ([.slice none 0 0, .slice none 0 0, .slice none 0 0].toArray, [(0, 1), (1, 1), (2, 1)].toArray) := by kernel_rfl
theorem callable_8 : Callable Tryz.prog 8 := ⟨_, Tryz.func8, by kernel_rfl, by kernel_rfl⟩
theorem callable_11 : Callable Tryz.prog 11 := ⟨_, Tryz.func11, by kernel_rfl, by kernel_rfl⟩
theorem callable_16 : Callable Tryz.prog 16 := ⟨_, Tryz.func16, by kernel_rfl, by kernel_rfl⟩
theorem callable_21 : Callable Tryz.prog 21 := ⟨_, Tryz.func21, by kernel_rfl, by kernel_rfl⟩
theorem callable_22 : Callable Tryz.prog 22 := ⟨_, Tryz.func22, by kernel_rfl, by kernel_rfl⟩
theorem callable_23 : Callable Tryz.prog 23 := ⟨_, Tryz.func23, by kernel_rfl, by kernel_rfl⟩
theorem callable_24 : Callable Tryz.prog 24 := ⟨_, Tryz.func24, by kernel_rfl, by kernel_rfl⟩
theorem callable_25 : Callable Tryz.prog 25 := ⟨_, Tryz.func25, by kernel_rfl, by kernel_rfl⟩
theorem callable_26 : Callable Tryz.prog 26 := ⟨_, Tryz.func26, by kernel_rfl, by kernel_rfl⟩
theorem callable_30 : Callable Tryz.prog 30 := ⟨_, Tryz.func30, by kernel_rfl, by kernel_rfl⟩
theorem callable_33 : Callable Tryz.prog 33 := ⟨_, Tryz.func33, by kernel_rfl, by kernel_rfl⟩
theorem callable_34 : Callable Tryz.prog 34 := ⟨_, Tryz.func34, by kernel_rfl, by kernel_rfl⟩
theorem callable_35 : Callable Tryz.prog 35 := ⟨_, Tryz.func35, by kernel_rfl, by kernel_rfl⟩
theorem callable_36 : Callable Tryz.prog 36 := ⟨_, Tryz.func36, by kernel_rfl, by kernel_rfl⟩
theorem callable_37 : Callable Tryz.prog 37 := ⟨_, Tryz.func37, by kernel_rfl, by kernel_rfl⟩
theorem callable_38 : Callable Tryz.prog 38 := ⟨_, Tryz.func38, by kernel_rfl, by kernel_rfl⟩
theorem callable_45 : Callable Tryz.prog 45 := ⟨_, Tryz.func45, by kernel_rfl, by kernel_rfl⟩
theorem callable_46 : Callable Tryz.prog 46 := ⟨_, Tryz.func46, by kernel_rfl, by kernel_rfl⟩
theorem callable_47 : Callable Tryz.prog 47 := ⟨_, Tryz.func47, by kernel_rfl, by kernel_rfl⟩
theorem callable_48 : Callable Tryz.prog 48 := ⟨_, Tryz.func48, by kernel_rfl, by kernel_rfl⟩
theorem callable_49 : Callable Tryz.prog 49 := ⟨_, Tryz.func49, by kernel_rfl, by kernel_rfl⟩
theorem callable_50 : Callable Tryz.prog 50 := ⟨_, Tryz.func50, by kernel_rfl, by kernel_rfl⟩
theorem callable_51 : Callable Tryz.prog 51 := ⟨_, Tryz.func51, by kernel_rfl, by kernel_rfl⟩
theorem callable_52 : Callable Tryz.prog 52 := ⟨_, Tryz.func52, by kernel_rfl, by kernel_rfl⟩
theorem callable_53 : Callable Tryz.prog 53 := ⟨_, Tryz.func53, by kernel_rfl, by kernel_rfl⟩
theorem callable_54 : Callable Tryz.prog 54 := ⟨_, Tryz.func54, by kernel_rfl, by kernel_rfl⟩
theorem callable_55 : Callable Tryz.prog 55 := ⟨_, Tryz.func55, by kernel_rfl, by kernel_rfl⟩
theorem callable_56 : Callable Tryz.prog 56 := ⟨_, Tryz.func56, by kernel_rfl, by kernel_rfl⟩
theorem callable_58 : Callable Tryz.prog 58 := ⟨_, Tryz.func58, by kernel_rfl, by kernel_rfl⟩
theorem callable_62 : Callable Tryz.prog 62 := ⟨_, Tryz.func62, by kernel_rfl, by kernel_rfl⟩
theorem callable_63 : Callable Tryz.prog 63 := ⟨_, Tryz.func63, by kernel_rfl, by kernel_rfl⟩
theorem callable_64 : Callable Tryz.prog 64 := ⟨_, Tryz.func64, by kernel_rfl, by kernel_rfl⟩
theorem callable_65 : Callable Tryz.prog 65 := ⟨_, Tryz.func65, by kernel_rfl, by kernel_rfl⟩
theorem callable_66 : Callable Tryz.prog 66 := ⟨_, Tryz.func66, by kernel_rfl, by kernel_rfl⟩
theorem callable_69 : Callable Tryz.prog 69 := ⟨_, Tryz.func69, by kernel_rfl, by kernel_rfl⟩
theorem callable_70 : Callable Tryz.prog 70 := ⟨_, Tryz.func70, by kernel_rfl, by kernel_rfl⟩
theorem callable_71 : Callable Tryz.prog 71 := ⟨_, Tryz.func71, by kernel_rfl, by kernel_rfl⟩
theorem callable_72 : Callable Tryz.prog 72 := ⟨_, Tryz.func72, by kernel_rfl, by kernel_rfl⟩
theorem callable_73 : Callable Tryz.prog 73 := ⟨_, Tryz.func73, by kernel_rfl, by kernel_rfl⟩
theorem callable_74 : Callable Tryz.prog 74 := ⟨_, Tryz.func74, by kernel_rfl, by kernel_rfl⟩
theorem callable_75 : Callable Tryz.prog 75 := ⟨_, Tryz.func75, by kernel_rfl, by kernel_rfl⟩
theorem callable_76 : Callable Tryz.prog 76 := ⟨_, Tryz.func76, by kernel_rfl, by kernel_rfl⟩
theorem callable_77 : Callable Tryz.prog 77 := ⟨_, Tryz.func77, by kernel_rfl, by kernel_rfl⟩
theorem callable_78 : Callable Tryz.prog 78 := ⟨_, Tryz.func78, by kernel_rfl, by kernel_rfl⟩
theorem callable_79 : Callable Tryz.prog 79 := ⟨_, Tryz.func79, by kernel_rfl, by kernel_rfl⟩
theorem callable_80 : Callable Tryz.prog 80 := ⟨_, Tryz.func80, by kernel_rfl, by kernel_rfl⟩
theorem callable_81 : Callable Tryz.prog 81 := ⟨_, Tryz.func81, by kernel_rfl, by kernel_rfl⟩
theorem callable_82 : Callable Tryz.prog 82 := ⟨_, Tryz.func82, by kernel_rfl, by kernel_rfl⟩
theorem callable_83 : Callable Tryz.prog 83 := ⟨_, Tryz.func83, by kernel_rfl, by kernel_rfl⟩
theorem callable_84 : Callable Tryz.prog 84 := ⟨_, Tryz.func84, by kernel_rfl, by kernel_rfl⟩
theorem callable_85 : Callable Tryz.prog 85 := ⟨_, Tryz.func85, by kernel_rfl, by kernel_rfl⟩
theorem callable_86 : Callable Tryz.prog 86 := ⟨_, Tryz.func86, by kernel_rfl, by kernel_rfl⟩
theorem callable_98 : Callable Tryz.prog 98 := ⟨_, Tryz.func98, by kernel_rfl, by kernel_rfl⟩
theorem callable_99 : Callable Tryz.prog 99 := ⟨_, Tryz.func99, by kernel_rfl, by kernel_rfl⟩
theorem callable_100 : Callable Tryz.prog 100 := ⟨_, Tryz.func100, by kernel_rfl, by kernel_rfl⟩
theorem callable_119 : Callable Tryz.prog 119 := ⟨_, Tryz.func119, by kernel_rfl, by kernel_rfl⟩
theorem callable_120 : Callable Tryz.prog 120 := ⟨_, Tryz.func120, by kernel_rfl, by kernel_rfl⟩
theorem callable_121 : Callable Tryz.prog 121 := ⟨_, Tryz.func121, by kernel_rfl, by kernel_rfl⟩
theorem callable_122 : Callable Tryz.prog 122 := ⟨_, Tryz.func122, by kernel_rfl, by kernel_rfl⟩
theorem callable_123 : Callable Tryz.prog 123 := ⟨_, Tryz.func123, by kernel_rfl, by kernel_rfl⟩
theorem callable_124 : Callable Tryz.prog 124 := ⟨_, Tryz.func124, by kernel_rfl, by kernel_rfl⟩
theorem callable_126 : Callable Tryz.prog 126 := ⟨_, Tryz.func126, by kernel_rfl, by kernel_rfl⟩
theorem callable_127 : Callable Tryz.prog 127 := ⟨_, Tryz.func127, by kernel_rfl, by kernel_rfl⟩
theorem callable_128 : Callable Tryz.prog 128 := ⟨_, Tryz.func128, by kernel_rfl, by kernel_rfl⟩
theorem callable_129 : Callable Tryz.prog 129 := ⟨_, Tryz.func129, by kernel_rfl, by kernel_rfl⟩
theorem callable_136 : Callable Tryz.prog 136 := ⟨_, Tryz.func136, by kernel_rfl, by kernel_rfl⟩
theorem callable_145 : Callable Tryz.prog 145 := ⟨_, Tryz.func145, by kernel_rfl, by kernel_rfl⟩
theorem callable_146 : Callable Tryz.prog 146 := ⟨_, Tryz.func146, by kernel_rfl, by kernel_rfl⟩
theorem callable_147 : Callable Tryz.prog 147 := ⟨_, Tryz.func147, by kernel_rfl, by kernel_rfl⟩
theorem callable_149 : Callable Tryz.prog 149 := ⟨_, Tryz.func149, by kernel_rfl, by kernel_rfl⟩
theorem callable_154 : Callable Tryz.prog 154 := ⟨_, Tryz.func154, by kernel_rfl, by kernel_rfl⟩
end Go.Proofs.YtbepolognfdkeaaGreat
set_option maxRecDepth 100000
namespace Go.Proofs.YtbepolognfdkeaaGreat
open Go.RowKit Go.Proofs
theorem nat_xor1 (a : Nat) : a ^^^ 1 = if a % 2 = 0 then a + 1 else a - 1 := by
 have h1 : (a ^^^ 1) / 2 = a / 2 := by rw [Nat.xor_div_two]; simp
 have h2 := @Nat.xor_mod_two_eq_one a 1
 have h3 : (a ^^^ 1) % 2 < 2 := Nat.mod_lt _ (by omega)
 have h4 : a % 2 < 2 := Nat.mod_lt _ (by omega)
 split
 ·rename_i h
  have : (a ^^^ 1) % 2 = 1 := h2.2 (by omega)
  omega
 ·rename_i h
  have : ¬ ((a ^^^ 1) % 2 = 1) := fun e => (h2.1 e) (by omega)
  omega
theorem nat_and32 (a : Nat) : a &&& 4294967295 = a % 4294967296 := by
 have := Nat.and_two_pow_sub_one_eq_mod a 32
 simpa using this
theorem u64_and32 (m : Int) (h : 0 ≤ m) (h2 : m < 18446744073709551616) : IntKind.u64.wrap ((BitVec.ofInt 64 m &&& BitVec.ofInt 64 4294967295).toNat) = m % 4294967296 := by
 obtain ⟨a, rfl⟩ := Int.eq_ofNat_of_zero_le h
 have e1 : (BitVec.ofInt 64 (a : Int)).toNat = a := by simp; omega
 have e2 : (BitVec.ofInt 64 4294967295).toNat = 4294967295 := by decide
 rw [BitVec.toNat_and, e1, e2, nat_and32, IntWalk.u64_in _ (by omega)]
 omega
theorem i64_xor1 (m : Int) (h : 0 ≤ m) (h2 : m < 4611686018427387904) : IntKind.i64.wrap ((BitVec.ofInt 64 m ^^^ BitVec.ofInt 64 1).toNat) = if m % 2 = 0 then m + 1 else m - 1 := by
 obtain ⟨a, rfl⟩ := Int.eq_ofNat_of_zero_le h
 have e1 : (BitVec.ofInt 64 (a : Int)).toNat = a := by simp; omega
 have e2 : (BitVec.ofInt 64 1).toNat = 1 := by decide
 rw [BitVec.toNat_xor, e1, e2, nat_xor1]
 split
 ·rename_i h; rw [if_pos (by omega), IntWalk.i64_in _ (by omega)]; omega
 ·rename_i h; rw [if_neg (by omega), IntWalk.i64_in _ (by omega)]; omega
section
variable {P : Program} {N : Nat} {o : Oper} {F : Fr} {w : World} {T U : TypeId} {x y : Operand} {m n : Int}
theorem ov_and32 (ho : o.op = .binOp .and T x y U) (hx : Fr.ev F x = some (.int .u64 m)) (hy : Fr.ev F y = some (.int .u64 4294967295)) (hm : 0 ≤ m ∧ m < 18446744073709551616) : OpV P N o F w (.int .u64 (m % 4294967296)) :=
 ov_bin ho hx hy (by
  have := u64_and32 m hm.1 hm.2
  simp [binOp, Op.intBits, IntKind.bits]
  exact this)
theorem ov_xor1 (ho : o.op = .binOp .xor T x y U) (hx : Fr.ev F x = some (.int .i64 m)) (hy : Fr.ev F y = some (.int .i64 1)) (hm : 0 ≤ m ∧ m < 4611686018427387904) : OpV P N o F w (.int .i64 (if m % 2 = 0 then m + 1 else m - 1)) :=
 ov_bin ho hx hy (by
  have := i64_xor1 m hm.1 hm.2
  simp [binOp, Op.intBits, IntKind.bits]
  exact this)
theorem ov_shr32 {k : IntKind} (ho : o.op = .binOp .shr T x y U) (hx : Fr.ev F x = some (.int .u64 m)) (hy : Fr.ev F y = some (.int k 32)) : OpV P N o F w (.int .u64 (m / 4294967296)) := by
 refine ov_bin ho hx hy ?_
 simp [binOp, Op.shift, IntKind.bits, Int.fdiv_eq_ediv]
theorem ov_addU (ho : o.op = .binOp .add T x y U) (hx : Fr.ev F x = some (.int .u64 m)) (hy : Fr.ev F y = some (.int .u64 n)) (hr : 0 ≤ m + n ∧ m + n ≤ 18446744073709551615) : OpV P N o F w (.int .u64 (m + n)) := by
 have := ov_addw (P := P) (N := N) (w := w) ho hx hy
 rwa [IntWalk.u64_in _ (by omega)] at this
theorem ov_mulU (ho : o.op = .binOp .mul T x y U) (hx : Fr.ev F x = some (.int .u64 m)) (hy : Fr.ev F y = some (.int .u64 n)) (hr : 0 ≤ m * n ∧ m * n ≤ 18446744073709551615) : OpV P N o F w (.int .u64 (m * n)) := by
 have := ov_mulw (P := P) (N := N) (w := w) ho hx hy
 rwa [IntWalk.u64_in _ (by omega)] at this
end
section
variable {P : Program} {f N : Nat} {k : List Item} {F : Fr} {w : World} {R : Ending → World → Prop}
theorem run_scope {c : Code} (h : Run P f N (.code c :: .inScope c :: k) F w R) : Run P f N (.code (.scope c) :: k) F w R :=
 fun a ha => RunA.of_step (fun _ => .one step_scope) (h a ha)
end
def LAt (B : Nat) (w : World) (b : Nat) (vs : List Value) : Prop := b < B ∧ ∀ i v, vs[i]? = some v → w.cell? ⟨b, i, none⟩ = some v
theorem LAt.open {B : Nat} {w : World} {b : Nat} {vs : List Value} (h : LAt B w b vs) : ∀ w', Below B w w' → ∀ {off : Nat} {v : Value}, vs[off]? = some v → w'.cell? ⟨b, off, none⟩ = some v :=
 fun w' hb off v hv => by rw [hb.cell (p := ⟨b, off, none⟩) h.1]; exact h.2 off v hv
theorem LAt.mono {B B' : Nat} {w : World} {b : Nat} {vs : List Value} (h : LAt B w b vs) (hB : B ≤ B') : LAt B' w b vs := ⟨Nat.lt_of_lt_of_le h.1 hB, h.2⟩
theorem LAt.below {B : Nat} {w w' : World} {b : Nat} {vs : List Value} (h : LAt B w b vs) (hb : Below B w w') : LAt B w' b vs := ⟨h.1, fun _ _ hv => h.open w' hb hv⟩
theorem Own.readsL {B : Nat} {w0 w : World} {H : List (Option Blk)} (h : Own B w0 w H) (k : Nat) {b : Nat} {t : TypeId} {vs : List Value} (hk : H[k]? = some (some (lch b t vs))) : LAt w.heap.size w b vs :=
 ⟨h.lt k hk, fun _ _ hv => h.cellL k hk hv⟩
theorem Own.readsI {B : Nat} {w0 w : World} {H : List (Option Blk)} (h : Own B w0 w H) (k : Nat) {b : Nat} {t : TypeId} {n : Nat} {G : Int → Value} (hk : H[k]? = some (some (vch b t n G))) : IAt w.heap.size w (some ⟨b, 0, none⟩) n G := h.reads k hk n (Nat.le_refl _)
theorem Own.openI {B : Nat} {w0 w : World} {H : List (Option Blk)} (h : Own B w0 w H) (k : Nat) {b : Nat} {t : TypeId} {n : Nat} {G : Int → Value} (hk : H[k]? = some (some (vch b t n G))) :
  ∀ w', Below w.heap.size w w' → ∀ i : Int, 0 ≤ i → i < n → w'.cell? ⟨b, 0 + i.toNat, none⟩ = some (G i) := fun w' hb i h0 hi => by
 rw [hb.cell (p := ⟨b, 0 + i.toNat, none⟩) (h.lt k hk)]; exact h.cellI k hk i h0 hi
theorem IRow.openS {ao : Option Addr} {m cap : Nat} {E : TypeId} {n : Nat} {G : Int → Value} {c : Option Blk} {B : Nat} {w0 w : World} {H : List (Option Blk)} (h : IRow (.slice ao m cap) E n G c) (ho : Own B w0 w H) (k : Nat) (hk : H[k]? = some c) :
  ∃ b, (0 < n → ao = some ⟨b, 0, none⟩) ∧ ∀ i : Int, 0 ≤ i → i < n → w.cell? ⟨b, 0 + i.toNat, none⟩ = some (G i) := by
 obtain ⟨ao', cap', b, h1, h2, h3⟩ := h.open ho k hk
 cases h1
 exact ⟨b, h2, h3⟩
theorem SRow.openS {ao : Option Addr} {m cap : Nat} {E : TypeId} {s n : Nat} {G : Int → List Value} {c : Option Blk} {B : Nat} {w0 w : World} {H : List (Option Blk)} (h : SRow (.slice ao m cap) E s n G c) (ho : Own B w0 w H) (k : Nat) (hk : H[k]? = some c) :
  ∃ b, (0 < n → ao = some ⟨b, 0, none⟩) ∧ ∀ i : Int, 0 ≤ i → i < n → ∀ fo, fo < s → w.cell? ⟨b, 0 + i.toNat * s + fo, none⟩ = some ((G i).getD fo undef) := by
 obtain ⟨ao', cap', b, h1, h2, h3⟩ := h.open ho k hk
 cases h1
 exact ⟨b, h2, h3⟩
theorem Own.none_ {B : Nat} {w0 w : World} {H : List (Option Blk)} (h : Own B w0 w H) : Own B w0 w [] := h.sub (List.nil_sublist _)
theorem Own.congrI {B : Nat} {w0 w : World} {H : List (Option Blk)} (h : Own B w0 w H) (k : Nat) {b : Nat} {t : TypeId} {n : Nat} {G G' : Int → Value} (hk : H[k]? = some (some (vch b t n G))) (e : ∀ i : Int, 0 ≤ i → i < n → G i = G' i) : Own B w0 w (H.set k (some (vch b t n G'))) :=
 h.congr k hk (fun j => G' (j : Int)) (fun i hi => e i (by omega) (by have : i < n := hi; omega))
section
variable {P : Program} {N : Nat} {o : Oper} {F : Fr} {w : World} {B : Nat} {w0 : World} {H : List (Option Blk)}
theorem ov_sliceL {T E : TypeId} {x l : Operand} {ao : Option Addr} {b off n c s : Nat} {k1 : IntKind} {i : Int} (ho : o.op = .slice T x (some l) none none) (hT : P.underlying T = some (.slice E)) (hs : (P.info? E).map (·.size) = some s)
  (hx : Fr.ev F x = some (.slice ao n c)) (hl : Fr.ev F l = some (.int k1 i)) (hb : 0 ≤ i ∧ i ≤ n) (hic : i < c) (hao : ao = some ⟨b, off, none⟩) :
  OpV P N o F w (.slice (some ⟨b, off + i.toNat * s, none⟩) (n - i.toNat) (c - i.toNat)) := by
 intro a ha
 subst hao
 cases hq : P.info? E with
 | none => simp [hq] at hs
 | some q =>
  have hs' : q.size = s := by simpa [hq] using hs
  unfold execOp
  rw [ho]
  have h3 : ¬ (c = i.toNat) := by omega
  simp [Instr.sliceAt, Instr.slice, Instr.sliceBounds, Instr.sliceBound, asIntOf, run_underlying hT, ha.ev hx, ha.ev hl, Result.andThen, hb, sizeOf, typeInfo, hq, hs', h3, Addr.add_mid]
theorem ow_empty {T E : TypeId} {d : Nat} {z : Value} {sz by_ : Nat} (hd : o.dst = some d) (hN : Nat.blt d N = true) (ho : o.op = .buildSlice T 0 #[]) (hT : P.underlying T = some (.slice E))
  (hinfo : (P.info? E).map (fun i => (i.zero, i.size, i.bytes)) = some (some z, sz, by_)) (hO : Own B w0 w H) :
  OpW P N o F w (fun F' w' => ∃ v c, F' = (d, v) :: F ∧ Own B w0 w' (c :: H) ∧ (∀ f, Row v E sz 0 f c) ∧ Below w.heap.size w w') := by
 obtain ⟨i, hi, hz0, hsz, hby⟩ := info_parts hinfo
 refine (ow_w (v := .slice (some ⟨w.heap.size, 0, none⟩) 0 0) (w' := w.alloc (.cells #[] E)) hd hN (fun a ha => ?_)).mono fun F' w' ⟨g1, g2⟩ => ⟨_, _, g1, ?_, fun f => .inr ⟨w.heap.size, 0, fun _ => undef, rfl, Nat.le_refl _, by unfold maxLen; omega, rfl, fun i hi => by omega⟩, by rw [g2]; exact (Below.refl _ _).alloc (Nat.le_refl _) _⟩
 ·unfold execOp
  rw [ho]
  simp [Instr.buildSlice, run_underlying hT, sizeOf, typeInfo, hi, Instr.fill, run_newRow, Result.andThen]
  have e : ∀ f : Nat → Value, Array.map f (Array.range 0) = #[] := fun f => by apply Array.ext'; simp
  rw [e]
 ·rw [g2]
  exact hO.alloc #[] E _ _ (by simp) (fun j hj => by simp at hj)
theorem ow_app1 {T E : TypeId} {a1 y : Operand} {d b2 : Nat} {z v x : Value} {by_ n : Nat} {G : Int → Value} {c : Option Blk} (hd : o.dst = some d) (hN : Nat.blt d N = true)
  (ho : o.op = .call { callee := .builtin .append, args := #[a1, y], argTypes := #[T, T] })
  (hT : P.underlying T = some (.slice E)) (hinfo : (P.info? E).map (fun i => (i.zero, i.size, i.bytes)) = some (some z, 1, by_)) (hz : z.cells = #[z])
  (hO : Own B w0 w (some (vch b2 E 1 (fun _ => x)) :: H)) (kk : Nat) (hr : IRow v E n G c) (hk : H[kk]? = some c) (hs : Fr.ev F a1 = some v) (hy : Fr.ev F y = some (.slice (some ⟨b2, 0, none⟩) 1 1)) (hx1 : x.oneCell' = true)
  (hb : n + 1 ≤ 9223372036854775807 ∧ (n + 1) * by_ ≤ 140737488355328) :
  OpW P N o F w (fun F' w' => ∃ v' c', F' = (d, v') :: F ∧ Own B w0 w' (H.set kk c') ∧ IRow v' E (n + 1) (upd G n x) c' ∧ w.heap.size ≤ w'.heap.size) :=
 have hsrc : IAt w.heap.size w (some ⟨b2, 0, none⟩) 1 (fun _ => x) := hO.reads 0 rfl 1 (Nat.le_refl _)
 (ow_appS hd hN ho hT hinfo hz hO (kk + 1) hr (by simpa using hk) hs hy hsrc (fun _ => hx1) hb).mono fun F' w' ⟨v', c', h1, h2, h3, h4⟩ => ⟨v', c', h1, h2.tail, h3.congr (fun i h0 hi => join1 G n (fun _ => x) i (by omega) h0), h4⟩
theorem ow_copy {T1 T2 E : TypeId} {x y : Operand} {d b o1 dLen dCap sb so sLen sCap m : Nat} {t : TypeId} {G U : Int → Value} (n : Nat) (hd : o.dst = some d) (hN : Nat.blt d N = true)
  (ho : o.op = .call { callee := .builtin .copy, args := #[x, y], argTypes := #[T1, T2] }) (hT : P.underlying T1 = some (.slice E)) (hs : (P.info? E).map (·.size) = some 1)
  (hO : Own B w0 w H) (kk : Nat) (hk : H[kk]? = some (some (vch b t m G))) (hx : Fr.ev F x = some (.slice (some ⟨b, o1, none⟩) dLen dCap)) (hy : Fr.ev F y = some (.slice (some ⟨sb, so, none⟩) sLen sCap)) (hn : n = min sLen dLen) (hfit : o1 + n ≤ m)
  (hsrc : ∀ i : Int, 0 ≤ i → i < n → w.cell? ⟨sb, so + i.toNat, none⟩ = some (U i)) (h1 : ∀ j, (U j).oneCell' = true) :
  OpW P N o F w (fun F' w' => F' = (d, .int .i64 n) :: F ∧ Own B w0 w' (H.set kk (some (vch b t m (fun j => if (o1 : Int) ≤ j ∧ j < (o1 : Int) + n then U (j - o1) else G j)))) ∧ w'.heap.size = w.heap.size) := by
 have hcopy := run_copy_cells (P := P) w T1 T2 o.type E b o1 dLen dCap ⟨sb, so, none⟩ sLen sCap ((List.range n).map fun (j : Nat) => U (j : Int)) hT hs (by simp [hn]) (by
  intro j v hv
  have hj : j < n := by
   have := (List.getElem?_eq_some_iff.1 hv).1
   simpa using this
  rw [Addr.add_mid]
  have := hsrc (j : Int) (by omega) (by omega)
  rw [Int.toNat_natCast] at this
  rw [this]
  simpa [hj] using hv) (fun j hj => by
   have hj' : j < n := by simpa using hj
   exact Option.isSome_iff_exists.2 ⟨_, hO.cell kk hk (o1 + j) (by show o1 + j < m; omega)⟩) (fun j _ => (hO.get kk hk).frozen _) (by simp [h1])
 refine (ow_w (v := .int .i64 n) (w' := w.setCells b o1 ((List.range n).map fun (j : Nat) => U (j : Int))) hd hN (fun a ha => ?_)).mono fun F' w' ⟨e1, e2⟩ => ⟨e1, ?_, by rw [e2]; exact size_setCells _ _ _ _⟩
 ·obtain ⟨cs, he⟩ := execOp_bi a.eval .copy [x, y] #[T1, T2] ho
  rw [he]
  simp only [builtin, List.map_cons, List.map_nil, ha.ev hx, ha.ev hy]
  rw [show (#[Value.slice (some ⟨b, o1, none⟩) dLen dCap, .slice (some ⟨sb, so, none⟩) sLen sCap] : Array Value) = [Value.slice (some ⟨b, o1, none⟩) dLen dCap, .slice (some ⟨sb, so, none⟩) sLen sCap].toArray from rfl] at hcopy
  simp [hcopy, Result.andThen, goInt]
 ·rw [e2]
  have hkl : kk < H.length := (List.getElem?_eq_some_iff.1 hk).1
  have h2 := (hO.storeN ((List.range n).map fun (j : Nat) => U (j : Int)) kk hk o1).congr kk (x := { (vch b t m G) with f := fun j => if o1 ≤ j ∧ j < o1 + ((List.range n).map fun (j : Nat) => U (j : Int)).length then ((List.range n).map fun (j : Nat) => U (j : Int)).getD (j - o1) undef else (vch b t m G).f j }) (by simp [hkl])
   (fun j => if (o1 : Int) ≤ (j : Int) ∧ (j : Int) < (o1 : Int) + n then U ((j : Int) - o1) else G j) (fun j hj => by
   simp only [List.length_map, List.length_range, vch]
   by_cases e : o1 ≤ j ∧ j < o1 + n
   ·rw [if_pos e, if_pos (by omega)]
    have e1 : j - o1 < n := by omega
    have e2 : ((j - o1 : Nat) : Int) = (j : Int) - o1 := by omega
    simp [e1, e2]
   ·rw [if_neg e, if_neg (by omega)])
  rw [List.set_set] at h2
  exact h2
end
end Go.Proofs.YtbepolognfdkeaaGreat
