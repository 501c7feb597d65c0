import Derived.Test.YtfbbagnpdfafjaaProg
import Derived.Test.YtfbbagnpdfafjaaStr
import Derived.KernelRfl
import Derived.Scope
namespace Go.Proofs.Ytfbbagnpdfafjaa
theorem mixed : Try.prog.follows .mixedOrders = true := by kernel_rfl
theorem info_2 : (Try.prog.info? 2).map (fun i => (i.zero, i.size, i.bytes)) = some (some (.int .i64 0), 1, 8) := by kernel_rfl
theorem info_3 : (Try.prog.info? 3).map (fun i => (i.zero, i.size, i.bytes)) = some (some (.int .i64 0), 1, 8) := by kernel_rfl
theorem info_22 : (Try.prog.info? 22).map (fun i => (i.zero, i.size, i.bytes)) = some (some (.slice none 0 0), 1, 24) := by kernel_rfl
theorem info_45 : (Try.prog.info? 45).map (fun i => (i.zero, i.size, i.bytes)) = some (some (.agg #[.int .i64 0, .int .i64 0, .int .i64 0, .int .i64 0, .int .i64 0]), 5, 40) := by kernel_rfl
theorem info_49 : (Try.prog.info? 49).map (fun i => (i.zero, i.size, i.bytes)) = some (some (.agg #[.int .i64 0, .int .i64 0, .slice none 0 0, .bool false]), 4, 48) := by kernel_rfl
theorem info_90 : (Try.prog.info? 90).map (fun i => (i.zero, i.size, i.bytes)) = some (some (.int .u64 0), 1, 8) := by kernel_rfl
theorem info_118 : (Try.prog.info? 118).map (fun i => (i.zero, i.size, i.bytes)) = some (some (.agg #[.int .i64 0, .int .i64 0, .int .i64 0, .int .i64 0, .int .i64 0, .int .i64 0, .int .i64 0, .int .i64 0, .int .i64 0, .int .i64 0, .int .i64 0, .int .i64 0]), 12, 96) := by kernel_rfl
theorem info_125 : (Try.prog.info? 125).map (fun i => (i.zero, i.size, i.bytes)) = some (some (.pointer none), 1, 8) := by kernel_rfl
theorem info_127 : (Try.prog.info? 127).map (fun i => (i.zero, i.size, i.bytes)) = some (some (.agg #[.int .i64 0, .int .i64 0, .int .i64 0, .int .i64 0, .int .i64 0, .int .i64 0, .int .i64 0, .int .i64 0, .int .i64 0, .int .i64 0, .int .i64 0, .int .i64 0, .int .i64 0, .int .i64 0, .bool false]), 15, 120) := by kernel_rfl
theorem info_139 : (Try.prog.info? 139).map (fun i => (i.zero, i.size, i.bytes)) = some (some (.nilFunc), 1, 8) := by kernel_rfl
theorem info_146 : (Try.prog.info? 146).map (fun i => (i.zero, i.size, i.bytes)) = some (some (.agg #[.int .i64 0, .int .i64 0, .int .i64 0, .int .i64 0, .int .i64 0]), 5, 40) := by kernel_rfl
theorem zero_25 : (Try.prog.info? 25).map (·.zero) = some (some (.agg #[.int .i64 0, .int .i64 0, .slice none 0 0, .slice none 0 0, .int .i64 0, .int .i64 0])) := by kernel_rfl
theorem lay_25 : layoutOf Try.prog 25 = some ([.int .i64 0, .int .i64 0, .slice none 0 0, .slice none 0 0, .int .i64 0, .int .i64 0].toArray, [(0, 1), (1, 1), (2, 1), (3, 1), (4, 1), (5, 1)].toArray) := by kernel_rfl
theorem zero_34 : (Try.prog.info? 34).map (·.zero) = some (some (.agg #[.int .i64 0, .int .i64 0, .slice none 0 0, .slice none 0 0, .int .i64 0, .int .i64 0, .slice none 0 0, .slice none 0 0, .slice none 0 0, .int .i64 0, .int .i64 0])) := by kernel_rfl
theorem lay_34 : layoutOf Try.prog 34 = some ([.int .i64 0, .int .i64 0, .slice none 0 0, .slice none 0 0, .int .i64 0, .int .i64 0, .slice none 0 0, .slice none 0 0, .slice none 0 0, .int .i64 0, .int .i64 0].toArray, [(0, 6), (6, 1), (7, 1), (8, 1), (9, 1), (10, 1)].toArray) := by kernel_rfl
theorem zero_40 : (Try.prog.info? 40).map (·.zero) = some (some (.agg #[.int .i64 0, .int .i64 0, .slice none 0 0, .slice none 0 0, .int .i64 0, .int .i64 0])) := by kernel_rfl
theorem lay_40 : layoutOf Try.prog 40 = some ([.int .i64 0, .int .i64 0, .slice none 0 0, .slice none 0 0, .int .i64 0, .int .i64 0].toArray, [(0, 1), (1, 1), (2, 1), (3, 1), (4, 1), (5, 1)].toArray) := by kernel_rfl
theorem zero_45 : (Try.prog.info? 45).map (·.zero) = some (some (.agg #[.int .i64 0, .int .i64 0, .int .i64 0, .int .i64 0, .int .i64 0])) := by kernel_rfl
theorem lay_45 : layoutOf Try.prog 45 = some ([.int .i64 0, .int .i64 0, .int .i64 0, .int .i64 0, .int .i64 0].toArray, [(0, 1), (1, 1), (2, 1), (3, 1), (4, 1)].toArray) := by kernel_rfl
theorem zero_49 : (Try.prog.info? 49).map (·.zero) = some (some (.agg #[.int .i64 0, .int .i64 0, .slice none 0 0, .bool false])) := by kernel_rfl
theorem lay_49 : layoutOf Try.prog 49 = some ([.int .i64 0, .int .i64 0, .slice none 0 0, .bool false].toArray, [(0, 1), (1, 1), (2, 1), (3, 1)].toArray) := by kernel_rfl
theorem zero_60 : (Try.prog.info? 60).map (·.zero) = some (some (.agg #[.int .i64 0, .int .i64 0, .int .i64 0, .int .i64 0, .int .i64 0])) := by kernel_rfl
theorem lay_60 : layoutOf Try.prog 60 = some ([.int .i64 0, .int .i64 0, .int .i64 0, .int .i64 0, .int .i64 0].toArray, [(0, 1), (1, 1), (2, 1), (3, 1), (4, 1)].toArray) := by kernel_rfl
theorem zero_118 : (Try.prog.info? 118).map (·.zero) = some (some (.agg #[.int .i64 0, .int .i64 0, .int .i64 0, .int .i64 0, .int .i64 0, .int .i64 0, .int .i64 0, .int .i64 0, .int .i64 0, .int .i64 0, .int .i64 0, .int .i64 0])) := by kernel_rfl
theorem zero_127 : (Try.prog.info? 127).map (·.zero) = some (some (.agg #[.int .i64 0, .int .i64 0, .int .i64 0, .int .i64 0, .int .i64 0, .int .i64 0, .int .i64 0, .int .i64 0, .int .i64 0, .int .i64 0, .int .i64 0, .int .i64 0, .int .i64 0, .int .i64 0, .bool false])) := by kernel_rfl
theorem lay_127 : layoutOf Try.prog 127 = some ([.int .i64 0, .int .i64 0, .int .i64 0, .int .i64 0, .int .i64 0, .int .i64 0, .int .i64 0, .int .i64 0, .int .i64 0, .int .i64 0, .int .i64 0, .int .i64 0, .int .i64 0, .int .i64 0, .bool false].toArray, [(0, 1), (1, 1), (2, 12), (14, 1)].toArray) := by kernel_rfl
theorem zero_138 : (Try.prog.info? 138).map (·.zero) = some (some (.agg #[.int .i64 0, .int .i64 0, .int .i64 0, .int .i64 0])) := by kernel_rfl
theorem zero_146 : (Try.prog.info? 146).map (·.zero) = some (some (.agg #[.int .i64 0, .int .i64 0, .int .i64 0, .int .i64 0, .int .i64 0])) := by kernel_rfl
theorem lay_146 : layoutOf Try.prog 146 = some ([.int .i64 0, .int .i64 0, .int .i64 0, .int .i64 0, .int .i64 0].toArray, [(0, 1), (1, 1), (2, 1), (3, 1), (4, 1)].toArray) := by kernel_rfl
theorem zero_152 : (Try.prog.info? 152).map (·.zero) = some (some (.agg #[.int .i64 0, .int .i64 0, .int .i64 0, .int .i64 0, .int .i64 0])) := by kernel_rfl
theorem lay_152 : layoutOf Try.prog 152 = some ([.int .i64 0, .int .i64 0, .int .i64 0, .int .i64 0, .int .i64 0].toArray, [(0, 1), (1, 1), (2, 1), (3, 1), (4, 1)].toArray) := by kernel_rfl
theorem zero_225 : (Try.prog.info? 225).map (·.zero) = some (some (.slice none 0 0)) := by kernel_rfl
theorem callable_15 : Callable Try.prog 15 := ⟨_, Try.func15, by kernel_rfl, by kernel_rfl⟩
theorem callable_16 : Callable Try.prog 16 := ⟨_, Try.func16, by kernel_rfl, by kernel_rfl⟩
theorem callable_17 : Callable Try.prog 17 := ⟨_, Try.func17, by kernel_rfl, by kernel_rfl⟩
theorem callable_18 : Callable Try.prog 18 := ⟨_, Try.func18, by kernel_rfl, by kernel_rfl⟩
theorem callable_19 : Callable Try.prog 19 := ⟨_, Try.func19, by kernel_rfl, by kernel_rfl⟩
theorem callable_20 : Callable Try.prog 20 := ⟨_, Try.func20, by kernel_rfl, by kernel_rfl⟩
theorem callable_21 : Callable Try.prog 21 := ⟨_, Try.func21, by kernel_rfl, by kernel_rfl⟩
theorem callable_22 : Callable Try.prog 22 := ⟨_, Try.func22, by kernel_rfl, by kernel_rfl⟩
theorem callable_23 : Callable Try.prog 23 := ⟨_, Try.func23, by kernel_rfl, by kernel_rfl⟩
theorem callable_24 : Callable Try.prog 24 := ⟨_, Try.func24, by kernel_rfl, by kernel_rfl⟩
theorem callable_25 : Callable Try.prog 25 := ⟨_, Try.func25, by kernel_rfl, by kernel_rfl⟩
theorem callable_26 : Callable Try.prog 26 := ⟨_, Try.func26, by kernel_rfl, by kernel_rfl⟩
theorem callable_27 : Callable Try.prog 27 := ⟨_, Try.func27, by kernel_rfl, by kernel_rfl⟩
theorem callable_28 : Callable Try.prog 28 := ⟨_, Try.func28, by kernel_rfl, by kernel_rfl⟩
theorem callable_29 : Callable Try.prog 29 := ⟨_, Try.func29, by kernel_rfl, by kernel_rfl⟩
theorem callable_30 : Callable Try.prog 30 := ⟨_, Try.func30, by kernel_rfl, by kernel_rfl⟩
theorem callable_32 : Callable Try.prog 32 := ⟨_, Try.func32, by kernel_rfl, by kernel_rfl⟩
theorem callable_33 : Callable Try.prog 33 := ⟨_, Try.func33, by kernel_rfl, by kernel_rfl⟩
theorem callable_34 : Callable Try.prog 34 := ⟨_, Try.func34, by kernel_rfl, by kernel_rfl⟩
theorem callable_36 : Callable Try.prog 36 := ⟨_, Try.func36, by kernel_rfl, by kernel_rfl⟩
theorem callable_37 : Callable Try.prog 37 := ⟨_, Try.func37, by kernel_rfl, by kernel_rfl⟩
theorem callable_43 : Callable Try.prog 43 := ⟨_, Try.func43, by kernel_rfl, by kernel_rfl⟩
theorem callable_54 : Callable Try.prog 54 := ⟨_, Try.func54, by kernel_rfl, by kernel_rfl⟩
theorem callable_55 : Callable Try.prog 55 := ⟨_, Try.func55, by kernel_rfl, by kernel_rfl⟩
theorem callable_56 : Callable Try.prog 56 := ⟨_, Try.func56, by kernel_rfl, by kernel_rfl⟩
theorem callable_57 : Callable Try.prog 57 := ⟨_, Try.func57, by kernel_rfl, by kernel_rfl⟩
theorem callable_58 : Callable Try.prog 58 := ⟨_, Try.func58, by kernel_rfl, by kernel_rfl⟩
theorem callable_59 : Callable Try.prog 59 := ⟨_, Try.func59, by kernel_rfl, by kernel_rfl⟩
theorem callable_60 : Callable Try.prog 60 := ⟨_, Try.func60, by kernel_rfl, by kernel_rfl⟩
theorem callable_61 : Callable Try.prog 61 := ⟨_, Try.func61, by kernel_rfl, by kernel_rfl⟩
theorem callable_62 : Callable Try.prog 62 := ⟨_, Try.func62, by kernel_rfl, by kernel_rfl⟩
theorem callable_63 : Callable Try.prog 63 := ⟨_, Try.func63, by kernel_rfl, by kernel_rfl⟩
theorem callable_64 : Callable Try.prog 64 := ⟨_, Try.func64, by kernel_rfl, by kernel_rfl⟩
theorem callable_65 : Callable Try.prog 65 := ⟨_, Try.func65, by kernel_rfl, by kernel_rfl⟩
theorem callable_66 : Callable Try.prog 66 := ⟨_, Try.func66, by kernel_rfl, by kernel_rfl⟩
theorem callable_67 : Callable Try.prog 67 := ⟨_, Try.func67, by kernel_rfl, by kernel_rfl⟩
theorem callable_68 : Callable Try.prog 68 := ⟨_, Try.func68, by kernel_rfl, by kernel_rfl⟩
theorem callable_69 : Callable Try.prog 69 := ⟨_, Try.func69, by kernel_rfl, by kernel_rfl⟩
theorem callable_70 : Callable Try.prog 70 := ⟨_, Try.func70, by kernel_rfl, by kernel_rfl⟩
theorem callable_71 : Callable Try.prog 71 := ⟨_, Try.func71, by kernel_rfl, by kernel_rfl⟩
theorem callable_73 : Callable Try.prog 73 := ⟨_, Try.func73, by kernel_rfl, by kernel_rfl⟩
theorem callable_74 : Callable Try.prog 74 := ⟨_, Try.func74, by kernel_rfl, by kernel_rfl⟩
theorem callable_75 : Callable Try.prog 75 := ⟨_, Try.func75, by kernel_rfl, by kernel_rfl⟩
theorem callable_76 : Callable Try.prog 76 := ⟨_, Try.func76, by kernel_rfl, by kernel_rfl⟩
theorem callable_77 : Callable Try.prog 77 := ⟨_, Try.func77, by kernel_rfl, by kernel_rfl⟩
theorem callable_78 : Callable Try.prog 78 := ⟨_, Try.func78, by kernel_rfl, by kernel_rfl⟩
theorem callable_79 : Callable Try.prog 79 := ⟨_, Try.func79, by kernel_rfl, by kernel_rfl⟩
theorem callable_80 : Callable Try.prog 80 := ⟨_, Try.func80, by kernel_rfl, by kernel_rfl⟩
theorem callable_81 : Callable Try.prog 81 := ⟨_, Try.func81, by kernel_rfl, by kernel_rfl⟩
theorem callable_82 : Callable Try.prog 82 := ⟨_, Try.func82, by kernel_rfl, by kernel_rfl⟩
theorem callable_83 : Callable Try.prog 83 := ⟨_, Try.func83, by kernel_rfl, by kernel_rfl⟩
theorem callable_85 : Callable Try.prog 85 := ⟨_, Try.func85, by kernel_rfl, by kernel_rfl⟩
theorem callable_88 : Callable Try.prog 88 := ⟨_, Try.func88, by kernel_rfl, by kernel_rfl⟩
theorem callable_89 : Callable Try.prog 89 := ⟨_, Try.func89, by kernel_rfl, by kernel_rfl⟩
theorem callable_108 : Callable Try.prog 108 := ⟨_, Try.func108, by kernel_rfl, by kernel_rfl⟩
theorem callable_109 : Callable Try.prog 109 := ⟨_, Try.func109, by kernel_rfl, by kernel_rfl⟩
theorem callable_110 : Callable Try.prog 110 := ⟨_, Try.func110, by kernel_rfl, by kernel_rfl⟩
theorem callable_111 : Callable Try.prog 111 := ⟨_, Try.func111, by kernel_rfl, by kernel_rfl⟩
theorem callable_112 : Callable Try.prog 112 := ⟨_, Try.func112, by kernel_rfl, by kernel_rfl⟩
theorem callable_113 : Callable Try.prog 113 := ⟨_, Try.func113, by kernel_rfl, by kernel_rfl⟩
theorem callable_114 : Callable Try.prog 114 := ⟨_, Try.func114, by kernel_rfl, by kernel_rfl⟩
theorem callable_115 : Callable Try.prog 115 := ⟨_, Try.func115, by kernel_rfl, by kernel_rfl⟩
theorem callable_116 : Callable Try.prog 116 := ⟨_, Try.func116, by kernel_rfl, by kernel_rfl⟩
theorem callable_117 : Callable Try.prog 117 := ⟨_, Try.func117, by kernel_rfl, by kernel_rfl⟩
theorem callable_118 : Callable Try.prog 118 := ⟨_, Try.func118, by kernel_rfl, by kernel_rfl⟩
theorem callable_119 : Callable Try.prog 119 := ⟨_, Try.func119, by kernel_rfl, by kernel_rfl⟩
theorem callable_120 : Callable Try.prog 120 := ⟨_, Try.func120, by kernel_rfl, by kernel_rfl⟩
theorem callable_121 : Callable Try.prog 121 := ⟨_, Try.func121, by kernel_rfl, by kernel_rfl⟩
theorem callable_122 : Callable Try.prog 122 := ⟨_, Try.func122, by kernel_rfl, by kernel_rfl⟩
theorem callable_123 : Callable Try.prog 123 := ⟨_, Try.func123, by kernel_rfl, by kernel_rfl⟩
theorem callable_124 : Callable Try.prog 124 := ⟨_, Try.func124, by kernel_rfl, by kernel_rfl⟩
theorem callable_125 : Callable Try.prog 125 := ⟨_, Try.func125, by kernel_rfl, by kernel_rfl⟩
theorem callable_126 : Callable Try.prog 126 := ⟨_, Try.func126, by kernel_rfl, by kernel_rfl⟩
theorem callable_128 : Callable Try.prog 128 := ⟨_, Try.func128, by kernel_rfl, by kernel_rfl⟩
theorem callable_129 : Callable Try.prog 129 := ⟨_, Try.func129, by kernel_rfl, by kernel_rfl⟩
theorem callable_130 : Callable Try.prog 130 := ⟨_, Try.func130, by kernel_rfl, by kernel_rfl⟩
theorem callable_139 : Callable Try.prog 139 := ⟨_, Try.func139, by kernel_rfl, by kernel_rfl⟩
theorem callable_140 : Callable Try.prog 140 := ⟨_, Try.func140, by kernel_rfl, by kernel_rfl⟩
theorem callable_141 : Callable Try.prog 141 := ⟨_, Try.func141, by kernel_rfl, by kernel_rfl⟩
theorem callable_142 : Callable Try.prog 142 := ⟨_, Try.func142, by kernel_rfl, by kernel_rfl⟩
theorem callable_146 : Callable Try.prog 146 := ⟨_, Try.func146, by kernel_rfl, by kernel_rfl⟩
theorem callable_147 : Callable Try.prog 147 := ⟨_, Try.func147, by kernel_rfl, by kernel_rfl⟩
end Go.Proofs.Ytfbbagnpdfafjaa
set_option maxRecDepth 100000
namespace Go.Proofs.Ytfbbagnpdfafjaa
open Go.RowKit Go.Proofs
theorem nat_and32 (a : Nat) : a &&& 4294967295 = a % 4294967296 := by
 have := Nat.and_two_pow_sub_one_eq_mod a 32
 simpa using this
theorem u64_and32 (m : Int) (h : 0 ≤ m) (h2 : m < 18446744073709551616) : IntKind.u64.wrap ((BitVec.ofInt 64 m &&& BitVec.ofInt 64 4294967295).toNat) = m % 4294967296 := by
 obtain ⟨a, rfl⟩ := Int.eq_ofNat_of_zero_le h
 have e1 : (BitVec.ofInt 64 (a : Int)).toNat = a := by simp; omega
 have e2 : (BitVec.ofInt 64 4294967295).toNat = 4294967295 := by decide
 rw [BitVec.toNat_and, e1, e2, nat_and32, IntWalk.u64_in _ (by omega)]
 omega
section
variable {P : Program} {N : Nat} {o : Oper} {F : Fr} {w : World} {T U : TypeId} {x y : Operand} {m n : Int}
theorem ov_and32 (ho : o.op = .binOp .and T x y U) (hx : Fr.ev F x = some (.int .u64 m)) (hy : Fr.ev F y = some (.int .u64 4294967295)) (hm : 0 ≤ m ∧ m < 18446744073709551616) : OpV P N o F w (.int .u64 (m % 4294967296)) :=
 ov_bin ho hx hy (by
  have := u64_and32 m hm.1 hm.2
  simp [binOp, Op.intBits, IntKind.bits]
  exact this)
theorem ov_shr32 {k : IntKind} (ho : o.op = .binOp .shr T x y U) (hx : Fr.ev F x = some (.int .u64 m)) (hy : Fr.ev F y = some (.int k 32)) : OpV P N o F w (.int .u64 (m / 4294967296)) := by
 refine ov_bin ho hx hy ?_
 simp [binOp, Op.shift, IntKind.bits, Int.fdiv_eq_ediv]
theorem ov_quoU (ho : o.op = .binOp .quo T x y U) (hx : Fr.ev F x = some (.int .u64 m)) (hy : Fr.ev F y = some (.int .u64 n)) (hm : 0 ≤ m ∧ m ≤ 18446744073709551615) (hn : 1 ≤ n) : OpV P N o F w (.int .u64 (m / n)) := by
 refine ov_bin ho hx hy ?_
 have h1 : m.tdiv n = m / n := Int.tdiv_eq_ediv_of_nonneg hm.1
 have h2 : m / n ≤ m := Int.ediv_le_self _ hm.1
 have h3 : 0 ≤ m / n := Int.ediv_nonneg hm.1 (by omega)
 simp [binOp, Op.intDiv, show n ≠ 0 by omega, h1, IntWalk.u64_in (m / n) (by omega)]
end
section
variable {P : Program} {f N : Nat} {k : List Item} {F : Fr} {w : World} {R : Ending → World → Prop}
end
theorem Own.readsI {B : Nat} {w0 w : World} {H : List (Option Blk)} (h : Own B w0 w H) (k : Nat) {b : Nat} {t : TypeId} {n : Nat} {G : Int → Value} (hk : H[k]? = some (some (vch b t n G))) : IAt w.heap.size w (some ⟨b, 0, none⟩) n G := h.reads k hk n (Nat.le_refl _)
theorem IRow.openS {ao : Option Addr} {m cap : Nat} {E : TypeId} {n : Nat} {G : Int → Value} {c : Option Blk} {B : Nat} {w0 w : World} {H : List (Option Blk)} (h : IRow (.slice ao m cap) E n G c) (ho : Own B w0 w H) (k : Nat) (hk : H[k]? = some c) :
  ∃ b, (0 < n → ao = some ⟨b, 0, none⟩) ∧ ∀ i : Int, 0 ≤ i → i < n → w.cell? ⟨b, 0 + i.toNat, none⟩ = some (G i) := by
 obtain ⟨ao', cap', b, h1, h2, h3⟩ := h.open ho k hk
 cases h1
 exact ⟨b, h2, h3⟩
theorem SRow.openS {ao : Option Addr} {m cap : Nat} {E : TypeId} {s n : Nat} {G : Int → List Value} {c : Option Blk} {B : Nat} {w0 w : World} {H : List (Option Blk)} (h : SRow (.slice ao m cap) E s n G c) (ho : Own B w0 w H) (k : Nat) (hk : H[k]? = some c) :
  ∃ b, (0 < n → ao = some ⟨b, 0, none⟩) ∧ ∀ i : Int, 0 ≤ i → i < n → ∀ fo, fo < s → w.cell? ⟨b, 0 + i.toNat * s + fo, none⟩ = some ((G i).getD fo undef) := by
 obtain ⟨ao', cap', b, h1, h2, h3⟩ := h.open ho k hk
 cases h1
 exact ⟨b, h2, h3⟩
theorem Own.congrI {B : Nat} {w0 w : World} {H : List (Option Blk)} (h : Own B w0 w H) (k : Nat) {b : Nat} {t : TypeId} {n : Nat} {G G' : Int → Value} (hk : H[k]? = some (some (vch b t n G))) (e : ∀ i : Int, 0 ≤ i → i < n → G i = G' i) : Own B w0 w (H.set k (some (vch b t n G'))) :=
 h.congr k hk (fun j => G' (j : Int)) (fun i hi => e i (by omega) (by have : i < n := hi; omega))
section
variable {P : Program} {N : Nat} {o : Oper} {F : Fr} {w : World} {B : Nat} {w0 : World} {H : List (Option Blk)}
theorem ow_copy {T1 T2 E : TypeId} {x y : Operand} {d b o1 dLen dCap sb so sLen sCap m : Nat} {t : TypeId} {G U : Int → Value} (n : Nat) (hd : o.dst = some d) (hN : Nat.blt d N = true)
  (ho : o.op = .call { callee := .builtin .copy, args := #[x, y], argTypes := #[T1, T2] }) (hT : P.underlying T1 = some (.slice E)) (hs : (P.info? E).map (·.size) = some 1)
  (hO : Own B w0 w H) (kk : Nat) (hk : H[kk]? = some (some (vch b t m G))) (hx : Fr.ev F x = some (.slice (some ⟨b, o1, none⟩) dLen dCap)) (hy : Fr.ev F y = some (.slice (some ⟨sb, so, none⟩) sLen sCap)) (hn : n = min sLen dLen) (hfit : o1 + n ≤ m)
  (hsrc : ∀ i : Int, 0 ≤ i → i < n → w.cell? ⟨sb, so + i.toNat, none⟩ = some (U i)) (h1 : ∀ j, (U j).oneCell' = true) :
  OpW P N o F w (fun F' w' => F' = (d, .int .i64 n) :: F ∧ Own B w0 w' (H.set kk (some (vch b t m (fun j => if (o1 : Int) ≤ j ∧ j < (o1 : Int) + n then U (j - o1) else G j)))) ∧ w'.heap.size = w.heap.size) := by
 have hcopy := run_copy_cells (P := P) w T1 T2 o.type E b o1 dLen dCap ⟨sb, so, none⟩ sLen sCap ((List.range n).map fun (j : Nat) => U (j : Int)) hT hs (by simp [hn]) (by
  intro j v hv
  have hj : j < n := by
   have := (List.getElem?_eq_some_iff.1 hv).1
   simpa using this
  rw [Addr.add_mid]
  have := hsrc (j : Int) (by omega) (by omega)
  rw [Int.toNat_natCast] at this
  rw [this]
  simpa [hj] using hv) (fun j hj => by
   have hj' : j < n := by simpa using hj
   exact Option.isSome_iff_exists.2 ⟨_, hO.cell kk hk (o1 + j) (by show o1 + j < m; omega)⟩) (fun j _ => (hO.get kk hk).frozen _) (by simp [h1])
 refine (ow_w (v := .int .i64 n) (w' := w.setCells b o1 ((List.range n).map fun (j : Nat) => U (j : Int))) hd hN (fun a ha => ?_)).mono fun F' w' ⟨e1, e2⟩ => ⟨e1, ?_, by rw [e2]; exact size_setCells _ _ _ _⟩
 ·obtain ⟨cs, he⟩ := execOp_bi a.eval .copy [x, y] #[T1, T2] ho
  rw [he]
  simp only [builtin, List.map_cons, List.map_nil, ha.ev hx, ha.ev hy]
  rw [show (#[Value.slice (some ⟨b, o1, none⟩) dLen dCap, .slice (some ⟨sb, so, none⟩) sLen sCap] : Array Value) = [Value.slice (some ⟨b, o1, none⟩) dLen dCap, .slice (some ⟨sb, so, none⟩) sLen sCap].toArray from rfl] at hcopy
  simp [hcopy, Result.andThen, goInt]
 ·rw [e2]
  have hkl : kk < H.length := (List.getElem?_eq_some_iff.1 hk).1
  have h2 := (hO.storeN ((List.range n).map fun (j : Nat) => U (j : Int)) kk hk o1).congr kk (x := { (vch b t m G) with f := fun j => if o1 ≤ j ∧ j < o1 + ((List.range n).map fun (j : Nat) => U (j : Int)).length then ((List.range n).map fun (j : Nat) => U (j : Int)).getD (j - o1) undef else (vch b t m G).f j }) (by simp [hkl])
   (fun j => if (o1 : Int) ≤ (j : Int) ∧ (j : Int) < (o1 : Int) + n then U ((j : Int) - o1) else G j) (fun j hj => by
   simp only [List.length_map, List.length_range, vch]
   by_cases e : o1 ≤ j ∧ j < o1 + n
   ·rw [if_pos e, if_pos (by omega)]
    have e1 : j - o1 < n := by omega
    have e2 : ((j - o1 : Nat) : Int) = (j : Int) - o1 := by omega
    simp [e1, e2]
   ·rw [if_neg e, if_neg (by omega)])
  rw [List.set_set] at h2
  exact h2
end
end Go.Proofs.Ytfbbagnpdfafjaa
