/- Closed facts on the program: types, functions. Printed by make.py. -/
import Derived.Test.YteagflekbbchhaaProg
import Derived.Test.YteagflekbbchhaaStr
import Derived.KernelRfl
namespace Go.Proofs.Yteagflekbbchhaa
theorem mixed : Try.prog.follows .mixedOrders = true := by kernel_rfl
theorem info_2 : (Try.prog.info? 2).map (fun i => (i.zero, i.size, i.bytes)) = some (some (.int .i64 0), 1, 8) := by kernel_rfl
theorem info_3 : (Try.prog.info? 3).map (fun i => (i.zero, i.size, i.bytes)) = some (some (.int .i64 0), 1, 8) := by kernel_rfl
theorem info_4 : (Try.prog.info? 4).map (fun i => (i.zero, i.size, i.bytes)) = some (some (.bool false), 1, 1) := by kernel_rfl
theorem info_7 : (Try.prog.info? 7).map (fun i => (i.zero, i.size, i.bytes)) = some (some (.agg #[.int .i64 0, .int .i64 0, .bool false, .int .u8 0]), 4, 24) := by kernel_rfl
theorem info_8 : (Try.prog.info? 8).map (fun i => (i.zero, i.size, i.bytes)) = some (some (.agg #[.int .i64 0, .int .i64 0, .bool false, .int .u8 0]), 4, 24) := by kernel_rfl
theorem info_18 : (Try.prog.info? 18).map (fun i => (i.zero, i.size, i.bytes)) = some (some (.agg #[.pointer none]), 1, 8) := by kernel_rfl
theorem info_19 : (Try.prog.info? 19).map (fun i => (i.zero, i.size, i.bytes)) = some (some (.agg #[.pointer none]), 1, 8) := by kernel_rfl
theorem info_23 : (Try.prog.info? 23).map (fun i => (i.zero, i.size, i.bytes)) = some (some (.agg #[.int .i64 0, .int .i64 0, .slice none 0 0, .slice none 0 0]), 4, 64) := by kernel_rfl
theorem info_24 : (Try.prog.info? 24).map (fun i => (i.zero, i.size, i.bytes)) = some (some (.agg #[.int .i64 0, .int .i64 0, .slice none 0 0, .slice none 0 0]), 4, 64) := by kernel_rfl
theorem info_31 : (Try.prog.info? 31).map (fun i => (i.zero, i.size, i.bytes)) = some (some (.agg #[.int .i64 0, .int .i64 0, .slice none 0 0, .slice none 0 0]), 4, 64) := by kernel_rfl
theorem info_33 : (Try.prog.info? 33).map (fun i => (i.zero, i.size, i.bytes)) = some (some (.agg #[.int .i64 0, .int .i64 0, .int .i64 0, .int .i64 0]), 4, 32) := by kernel_rfl
theorem info_34 : (Try.prog.info? 34).map (fun i => (i.zero, i.size, i.bytes)) = some (some (.agg #[.int .i64 0, .int .i64 0, .int .i64 0, .int .i64 0]), 4, 32) := by kernel_rfl
theorem info_41 : (Try.prog.info? 41).map (fun i => (i.zero, i.size, i.bytes)) = some (some (.agg #[.int .i64 0, .int .i64 0, .int .i64 0, .int .i64 0]), 4, 32) := by kernel_rfl
theorem info_48 : (Try.prog.info? 48).map (fun i => (i.zero, i.size, i.bytes)) = some (some (.agg #[.slice none 0 0, .slice none 0 0, .slice none 0 0]), 3, 72) := by kernel_rfl
theorem info_50 : (Try.prog.info? 50).map (fun i => (i.zero, i.size, i.bytes)) = some (some (.agg #[.int .i64 0, .int .i64 0, .int .i64 0, .int .i64 0, .int .i64 0, .int .i64 0, .int .i64 0]), 7, 56) := by kernel_rfl
theorem info_51 : (Try.prog.info? 51).map (fun i => (i.zero, i.size, i.bytes)) = some (some (.agg #[.int .i64 0, .int .i64 0, .int .i64 0, .int .i64 0, .int .i64 0, .int .i64 0, .int .i64 0]), 7, 56) := by kernel_rfl
theorem info_61 : (Try.prog.info? 61).map (fun i => (i.zero, i.size, i.bytes)) = some (some (.agg #[.int .i64 0, .int .i64 0]), 2, 16) := by kernel_rfl
theorem info_65 : (Try.prog.info? 65).map (fun i => (i.zero, i.size, i.bytes)) = some (some (.agg #[.slice none 0 0, .int .i64 0, .bool false, .bool false, .int .i64 0]), 5, 48) := by kernel_rfl
theorem info_66 : (Try.prog.info? 66).map (fun i => (i.zero, i.size, i.bytes)) = some (some (.agg #[.slice none 0 0, .int .i64 0, .bool false, .bool false, .int .i64 0]), 5, 48) := by kernel_rfl
theorem info_67 : (Try.prog.info? 67).map (fun i => (i.zero, i.size, i.bytes)) = some (some (.agg #[.slice none 0 0, .int .i64 0, .bool false, .bool false, .int .i64 0, .slice none 0 0, .int .i64 0, .bool false, .bool false, .int .i64 0, .slice none 0 0, .int .i64 0, .bool false, .bool false, .int .i64 0]), 15, 144) := by kernel_rfl
theorem info_68 : (Try.prog.info? 68).map (fun i => (i.zero, i.size, i.bytes)) = some (some (.agg #[.int .i64 0, .int .i64 0, .slice none 0 0, .slice none 0 0, .slice none 0 0, .slice none 0 0, .slice none 0 0, .slice none 0 0, .int .i64 0, .bool false, .bool false, .int .i64 0, .slice none 0 0, .int .i64 0, .bool false, .bool false, .int .i64 0, .slice none 0 0, .int .i64 0, .bool false, .bool false, .int .i64 0]), 22, 280) := by kernel_rfl
theorem info_69 : (Try.prog.info? 69).map (fun i => (i.zero, i.size, i.bytes)) = some (some (.agg #[.int .i64 0, .int .i64 0, .slice none 0 0, .slice none 0 0, .slice none 0 0, .slice none 0 0, .slice none 0 0, .slice none 0 0, .int .i64 0, .bool false, .bool false, .int .i64 0, .slice none 0 0, .int .i64 0, .bool false, .bool false, .int .i64 0, .slice none 0 0, .int .i64 0, .bool false, .bool false, .int .i64 0]), 22, 280) := by kernel_rfl
theorem info_86 : (Try.prog.info? 86).map (fun i => (i.zero, i.size, i.bytes)) = some (some (.agg #[.int .i64 0, .int .i64 0, .int .i64 0, .int .i64 0]), 4, 32) := by kernel_rfl
theorem info_87 : (Try.prog.info? 87).map (fun i => (i.zero, i.size, i.bytes)) = some (some (.agg #[.int .i64 0, .int .i64 0, .int .i64 0, .int .i64 0]), 4, 32) := by kernel_rfl
theorem info_95 : (Try.prog.info? 95).map (fun i => (i.zero, i.size, i.bytes)) = some (some (.agg #[.nilIface, .nilIface, .nilIface]), 3, 48) := by kernel_rfl
theorem info_96 : (Try.prog.info? 96).map (fun i => (i.zero, i.size, i.bytes)) = some (some (.agg #[.int .i64 0, .int .i64 0, .slice none 0 0, .slice none 0 0, .slice none 0 0, .nilIface, .nilIface, .nilIface, .slice none 0 0]), 9, 160) := by kernel_rfl
theorem info_97 : (Try.prog.info? 97).map (fun i => (i.zero, i.size, i.bytes)) = some (some (.agg #[.int .i64 0, .int .i64 0, .slice none 0 0, .slice none 0 0, .slice none 0 0, .nilIface, .nilIface, .nilIface, .slice none 0 0]), 9, 160) := by kernel_rfl
theorem info_101 : (Try.prog.info? 101).map (fun i => (i.zero, i.size, i.bytes)) = some (some (.agg #[.slice none 0 0, .int .i64 0, .int .i64 0, .bool false]), 4, 48) := by kernel_rfl
theorem info_102 : (Try.prog.info? 102).map (fun i => (i.zero, i.size, i.bytes)) = some (some (.agg #[.slice none 0 0, .int .i64 0, .int .i64 0, .bool false]), 4, 48) := by kernel_rfl
theorem info_103 : (Try.prog.info? 103).map (fun i => (i.zero, i.size, i.bytes)) = some (some (.agg #[.slice none 0 0, .int .i64 0, .int .i64 0, .bool false, .pointer none, .map none]), 6, 64) := by kernel_rfl
theorem info_104 : (Try.prog.info? 104).map (fun i => (i.zero, i.size, i.bytes)) = some (some (.agg #[.slice none 0 0, .int .i64 0, .int .i64 0, .bool false, .pointer none, .map none]), 6, 64) := by kernel_rfl
theorem info_107 : (Try.prog.info? 107).map (fun i => (i.zero, i.size, i.bytes)) = some (some (.agg #[.slice none 0 0, .int .i64 0, .int .i64 0, .bool false, .pointer none, .int .i64 0, .slice none 0 0]), 7, 88) := by kernel_rfl
theorem info_108 : (Try.prog.info? 108).map (fun i => (i.zero, i.size, i.bytes)) = some (some (.agg #[.slice none 0 0, .int .i64 0, .int .i64 0, .bool false, .pointer none, .int .i64 0, .slice none 0 0]), 7, 88) := by kernel_rfl
theorem info_121 : (Try.prog.info? 121).map (fun i => (i.zero, i.size, i.bytes)) = some (some (.agg #[.int .i64 0, .int .i64 0]), 2, 16) := by kernel_rfl
theorem info_122 : (Try.prog.info? 122).map (fun i => (i.zero, i.size, i.bytes)) = some (some (.agg #[.int .i64 0, .int .i64 0]), 2, 16) := by kernel_rfl
theorem info_123 : (Try.prog.info? 123).map (fun i => (i.zero, i.size, i.bytes)) = some (some (.agg #[.bool false, .bool false, .bool false]), 3, 3) := by kernel_rfl
theorem info_124 : (Try.prog.info? 124).map (fun i => (i.zero, i.size, i.bytes)) = some (some (.agg #[.int .i64 0, .int .i64 0, .bool false, .bool false, .bool false]), 5, 24) := by kernel_rfl
theorem info_125 : (Try.prog.info? 125).map (fun i => (i.zero, i.size, i.bytes)) = some (some (.agg #[.int .i64 0, .int .i64 0, .bool false, .bool false, .bool false]), 5, 24) := by kernel_rfl
theorem info_126 : (Try.prog.info? 126).map (fun i => (i.zero, i.size, i.bytes)) = some (some (.agg #[.int .i64 0, .bool false, .bool false, .bool false, .int .i64 0]), 5, 24) := by kernel_rfl
theorem info_127 : (Try.prog.info? 127).map (fun i => (i.zero, i.size, i.bytes)) = some (some (.agg #[.int .i64 0, .bool false, .bool false, .bool false, .int .i64 0]), 5, 24) := by kernel_rfl
theorem info_136 : (Try.prog.info? 136).map (fun i => (i.zero, i.size, i.bytes)) = some (some (.agg #[.int .i64 0, .int .i64 0, .int .i64 0, .int .i64 0]), 4, 32) := by kernel_rfl
theorem info_143 : (Try.prog.info? 143).map (fun i => (i.zero, i.size, i.bytes)) = some (some (.agg #[.int .i64 0, .int .i64 0]), 2, 16) := by kernel_rfl
theorem info_144 : (Try.prog.info? 144).map (fun i => (i.zero, i.size, i.bytes)) = some (some (.agg #[.int .i64 0, .int .i64 0]), 2, 16) := by kernel_rfl
theorem info_149 : (Try.prog.info? 149).map (fun i => (i.zero, i.size, i.bytes)) = some (some (.agg #[]), 0, 0) := by kernel_rfl
theorem info_150 : (Try.prog.info? 150).map (fun i => (i.zero, i.size, i.bytes)) = some (some (.agg #[]), 0, 0) := by kernel_rfl
theorem info_163 : (Try.prog.info? 163).map (fun i => (i.zero, i.size, i.bytes)) = some (some (.agg #[]), 0, 0) := by kernel_rfl
theorem info_164 : (Try.prog.info? 164).map (fun i => (i.zero, i.size, i.bytes)) = some (some (.agg #[]), 0, 0) := by kernel_rfl
theorem info_165 : (Try.prog.info? 165).map (fun i => (i.zero, i.size, i.bytes)) = some (some (.agg #[]), 0, 0) := by kernel_rfl
theorem info_174 : (Try.prog.info? 174).map (fun i => (i.zero, i.size, i.bytes)) = some (some (.agg #[.int .u64 0, .int .u64 0, .int .u32 0, .int .u8 0, .int .u8 0, .int .u8 0, .int .u8 0, .nilFunc, .pointer none, .int .i32 0, .int .i32 0]), 11, 48) := by kernel_rfl
theorem info_175 : (Try.prog.info? 175).map (fun i => (i.zero, i.size, i.bytes)) = some (some (.agg #[.int .u64 0, .int .u64 0, .int .u32 0, .int .u8 0, .int .u8 0, .int .u8 0, .int .u8 0, .nilFunc, .pointer none, .int .i32 0, .int .i32 0]), 11, 48) := by kernel_rfl
theorem zero_1 : (Try.prog.info? 1).map (·.zero) = some (some (.nilFunc)) := by kernel_rfl
theorem zero_2 : (Try.prog.info? 2).map (·.zero) = some (some (.int .i64 0)) := by kernel_rfl
theorem zero_3 : (Try.prog.info? 3).map (·.zero) = some (some (.int .i64 0)) := by kernel_rfl
theorem zero_4 : (Try.prog.info? 4).map (·.zero) = some (some (.bool false)) := by kernel_rfl
theorem zero_5 : (Try.prog.info? 5).map (·.zero) = some (some (.int .u8 0)) := by kernel_rfl
theorem zero_6 : (Try.prog.info? 6).map (·.zero) = some (some (.int .u8 0)) := by kernel_rfl
theorem zero_7 : (Try.prog.info? 7).map (·.zero) = some (some (.agg #[.int .i64 0, .int .i64 0, .bool false, .int .u8 0])) := by kernel_rfl
theorem lay_7 : layoutOf Try.prog 7 = some ([.int .i64 0, .int .i64 0, .bool false, .int .u8 0].toArray, [(0, 1), (1, 1), (2, 1), (3, 1)].toArray) := by kernel_rfl
theorem zero_8 : (Try.prog.info? 8).map (·.zero) = some (some (.agg #[.int .i64 0, .int .i64 0, .bool false, .int .u8 0])) := by kernel_rfl
theorem lay_8 : layoutOf Try.prog 8 = some ([.int .i64 0, .int .i64 0, .bool false, .int .u8 0].toArray, [(0, 1), (1, 1), (2, 1), (3, 1)].toArray) := by kernel_rfl
theorem zero_12 : (Try.prog.info? 12).map (·.zero) = some (some (.int .u64 0)) := by kernel_rfl
theorem zero_15 : (Try.prog.info? 15).map (·.zero) = some (some (.pointer none)) := by kernel_rfl
theorem zero_16 : (Try.prog.info? 16).map (·.zero) = some (some (.pointer none)) := by kernel_rfl
theorem zero_17 : (Try.prog.info? 17).map (·.zero) = some (some (.pointer none)) := by kernel_rfl
theorem zero_18 : (Try.prog.info? 18).map (·.zero) = some (some (.agg #[.pointer none])) := by kernel_rfl
theorem lay_18 : layoutOf Try.prog 18 = some ([.pointer none].toArray, [(0, 1)].toArray) := by kernel_rfl
theorem zero_19 : (Try.prog.info? 19).map (·.zero) = some (some (.agg #[.pointer none])) := by kernel_rfl
theorem lay_19 : layoutOf Try.prog 19 = some ([.pointer none].toArray, [(0, 1)].toArray) := by kernel_rfl
theorem zero_20 : (Try.prog.info? 20).map (·.zero) = some (some (.nilIface)) := by kernel_rfl
theorem zero_21 : (Try.prog.info? 21).map (·.zero) = some (some (.int .i32 0)) := by kernel_rfl
theorem zero_22 : (Try.prog.info? 22).map (·.zero) = some (some (.slice none 0 0)) := by kernel_rfl
theorem zero_23 : (Try.prog.info? 23).map (·.zero) = some (some (.agg #[.int .i64 0, .int .i64 0, .slice none 0 0, .slice none 0 0])) := by kernel_rfl
theorem lay_23 : layoutOf Try.prog 23 = some ([.int .i64 0, .int .i64 0, .slice none 0 0, .slice none 0 0].toArray, [(0, 1), (1, 1), (2, 1), (3, 1)].toArray) := by kernel_rfl
theorem zero_24 : (Try.prog.info? 24).map (·.zero) = some (some (.agg #[.int .i64 0, .int .i64 0, .slice none 0 0, .slice none 0 0])) := by kernel_rfl
theorem lay_24 : layoutOf Try.prog 24 = some ([.int .i64 0, .int .i64 0, .slice none 0 0, .slice none 0 0].toArray, [(0, 1), (1, 1), (2, 1), (3, 1)].toArray) := by kernel_rfl
theorem zero_25 : (Try.prog.info? 25).map (·.zero) = some (some (.slice none 0 0)) := by kernel_rfl
theorem zero_26 : (Try.prog.info? 26).map (·.zero) = some (some (.nilFunc)) := by kernel_rfl
theorem zero_27 : (Try.prog.info? 27).map (·.zero) = some (some (.pointer none)) := by kernel_rfl
theorem zero_28 : (Try.prog.info? 28).map (·.zero) = some (some (.int .i64 0)) := by kernel_rfl
theorem zero_30 : (Try.prog.info? 30).map (·.zero) = some (some (.nilFunc)) := by kernel_rfl
theorem zero_31 : (Try.prog.info? 31).map (·.zero) = some (some (.agg #[.int .i64 0, .int .i64 0, .slice none 0 0, .slice none 0 0])) := by kernel_rfl
theorem lay_31 : layoutOf Try.prog 31 = some ([.int .i64 0, .int .i64 0, .slice none 0 0, .slice none 0 0].toArray, [(0, 1), (1, 1), (2, 1), (3, 1)].toArray) := by kernel_rfl
theorem zero_32 : (Try.prog.info? 32).map (·.zero) = some (some (.nilFunc)) := by kernel_rfl
theorem zero_33 : (Try.prog.info? 33).map (·.zero) = some (some (.agg #[.int .i64 0, .int .i64 0, .int .i64 0, .int .i64 0])) := by kernel_rfl
theorem lay_33 : layoutOf Try.prog 33 = some ([.int .i64 0, .int .i64 0, .int .i64 0, .int .i64 0].toArray, [(0, 1), (1, 1), (2, 1), (3, 1)].toArray) := by kernel_rfl
theorem zero_34 : (Try.prog.info? 34).map (·.zero) = some (some (.agg #[.int .i64 0, .int .i64 0, .int .i64 0, .int .i64 0])) := by kernel_rfl
theorem lay_34 : layoutOf Try.prog 34 = some ([.int .i64 0, .int .i64 0, .int .i64 0, .int .i64 0].toArray, [(0, 1), (1, 1), (2, 1), (3, 1)].toArray) := by kernel_rfl
theorem zero_35 : (Try.prog.info? 35).map (·.zero) = some (some (.int .u64 0)) := by kernel_rfl
theorem zero_36 : (Try.prog.info? 36).map (·.zero) = some (some (.int .u64 0)) := by kernel_rfl
theorem zero_38 : (Try.prog.info? 38).map (·.zero) = some (some (.nilFunc)) := by kernel_rfl
theorem zero_40 : (Try.prog.info? 40).map (·.zero) = some (some (.nilFunc)) := by kernel_rfl
theorem zero_41 : (Try.prog.info? 41).map (·.zero) = some (some (.agg #[.int .i64 0, .int .i64 0, .int .i64 0, .int .i64 0])) := by kernel_rfl
theorem lay_41 : layoutOf Try.prog 41 = some ([.int .i64 0, .int .i64 0, .int .i64 0, .int .i64 0].toArray, [(0, 1), (1, 1), (2, 1), (3, 1)].toArray) := by kernel_rfl
theorem zero_42 : (Try.prog.info? 42).map (·.zero) = some (some (.nilFunc)) := by kernel_rfl
theorem zero_43 : (Try.prog.info? 43).map (·.zero) = some (some (.nilFunc)) := by kernel_rfl
theorem zero_44 : (Try.prog.info? 44).map (·.zero) = some (some (.nilFunc)) := by kernel_rfl
theorem zero_45 : (Try.prog.info? 45).map (·.zero) = some (some (.nilFunc)) := by kernel_rfl
theorem zero_46 : (Try.prog.info? 46).map (·.zero) = some (some (.slice none 0 0)) := by kernel_rfl
theorem zero_47 : (Try.prog.info? 47).map (·.zero) = some (some (.slice none 0 0)) := by kernel_rfl
theorem zero_48 : (Try.prog.info? 48).map (·.zero) = some (some (.agg #[.slice none 0 0, .slice none 0 0, .slice none 0 0])) := by kernel_rfl
theorem zero_49 : (Try.prog.info? 49).map (·.zero) = some (some (.nilFunc)) := by kernel_rfl
theorem zero_50 : (Try.prog.info? 50).map (·.zero) = some (some (.agg #[.int .i64 0, .int .i64 0, .int .i64 0, .int .i64 0, .int .i64 0, .int .i64 0, .int .i64 0])) := by kernel_rfl
theorem lay_50 : layoutOf Try.prog 50 = some ([.int .i64 0, .int .i64 0, .int .i64 0, .int .i64 0, .int .i64 0, .int .i64 0, .int .i64 0].toArray, [(0, 1), (1, 4), (5, 1), (6, 1)].toArray) := by kernel_rfl
theorem zero_51 : (Try.prog.info? 51).map (·.zero) = some (some (.agg #[.int .i64 0, .int .i64 0, .int .i64 0, .int .i64 0, .int .i64 0, .int .i64 0, .int .i64 0])) := by kernel_rfl
theorem lay_51 : layoutOf Try.prog 51 = some ([.int .i64 0, .int .i64 0, .int .i64 0, .int .i64 0, .int .i64 0, .int .i64 0, .int .i64 0].toArray, [(0, 1), (1, 4), (5, 1), (6, 1)].toArray) := by kernel_rfl
theorem zero_52 : (Try.prog.info? 52).map (·.zero) = some (some (.slice none 0 0)) := by kernel_rfl
theorem zero_53 : (Try.prog.info? 53).map (·.zero) = some (some (.nilFunc)) := by kernel_rfl
theorem zero_55 : (Try.prog.info? 55).map (·.zero) = some (some (.nilFunc)) := by kernel_rfl
theorem zero_56 : (Try.prog.info? 56).map (·.zero) = some (some (.nilFunc)) := by kernel_rfl
theorem zero_57 : (Try.prog.info? 57).map (·.zero) = some (some (.nilFunc)) := by kernel_rfl
theorem zero_59 : (Try.prog.info? 59).map (·.zero) = some (some (.nilFunc)) := by kernel_rfl
theorem zero_60 : (Try.prog.info? 60).map (·.zero) = some (some (.nilFunc)) := by kernel_rfl
theorem zero_61 : (Try.prog.info? 61).map (·.zero) = some (some (.agg #[.int .i64 0, .int .i64 0])) := by kernel_rfl
theorem zero_62 : (Try.prog.info? 62).map (·.zero) = some (some (.slice none 0 0)) := by kernel_rfl
theorem zero_63 : (Try.prog.info? 63).map (·.zero) = some (some (.slice none 0 0)) := by kernel_rfl
theorem zero_64 : (Try.prog.info? 64).map (·.zero) = some (some (.slice none 0 0)) := by kernel_rfl
theorem zero_65 : (Try.prog.info? 65).map (·.zero) = some (some (.agg #[.slice none 0 0, .int .i64 0, .bool false, .bool false, .int .i64 0])) := by kernel_rfl
theorem lay_65 : layoutOf Try.prog 65 = some ([.slice none 0 0, .int .i64 0, .bool false, .bool false, .int .i64 0].toArray, [(0, 1), (1, 1), (2, 1), (3, 1), (4, 1)].toArray) := by kernel_rfl
theorem zero_66 : (Try.prog.info? 66).map (·.zero) = some (some (.agg #[.slice none 0 0, .int .i64 0, .bool false, .bool false, .int .i64 0])) := by kernel_rfl
theorem lay_66 : layoutOf Try.prog 66 = some ([.slice none 0 0, .int .i64 0, .bool false, .bool false, .int .i64 0].toArray, [(0, 1), (1, 1), (2, 1), (3, 1), (4, 1)].toArray) := by kernel_rfl
theorem zero_67 : (Try.prog.info? 67).map (·.zero) = some (some (.agg #[.slice none 0 0, .int .i64 0, .bool false, .bool false, .int .i64 0, .slice none 0 0, .int .i64 0, .bool false, .bool false, .int .i64 0, .slice none 0 0, .int .i64 0, .bool false, .bool false, .int .i64 0])) := by kernel_rfl
theorem zero_68 : (Try.prog.info? 68).map (·.zero) = some (some (.agg #[.int .i64 0, .int .i64 0, .slice none 0 0, .slice none 0 0, .slice none 0 0, .slice none 0 0, .slice none 0 0, .slice none 0 0, .int .i64 0, .bool false, .bool false, .int .i64 0, .slice none 0 0, .int .i64 0, .bool false, .bool false, .int .i64 0, .slice none 0 0, .int .i64 0, .bool false, .bool false, .int .i64 0])) := by kernel_rfl
theorem lay_68 : layoutOf Try.prog 68 = some ([.int .i64 0, .int .i64 0, .slice none 0 0, .slice none 0 0, .slice none 0 0, .slice none 0 0, .slice none 0 0, .slice none 0 0, .int .i64 0, .bool false, .bool false, .int .i64 0, .slice none 0 0, .int .i64 0, .bool false, .bool false, .int .i64 0, .slice none 0 0, .int .i64 0, .bool false, .bool false, .int .i64 0].toArray, [(0, 4), (4, 1), (5, 1), (6, 1), (7, 15)].toArray) := by kernel_rfl
theorem zero_69 : (Try.prog.info? 69).map (·.zero) = some (some (.agg #[.int .i64 0, .int .i64 0, .slice none 0 0, .slice none 0 0, .slice none 0 0, .slice none 0 0, .slice none 0 0, .slice none 0 0, .int .i64 0, .bool false, .bool false, .int .i64 0, .slice none 0 0, .int .i64 0, .bool false, .bool false, .int .i64 0, .slice none 0 0, .int .i64 0, .bool false, .bool false, .int .i64 0])) := by kernel_rfl
theorem lay_69 : layoutOf Try.prog 69 = some ([.int .i64 0, .int .i64 0, .slice none 0 0, .slice none 0 0, .slice none 0 0, .slice none 0 0, .slice none 0 0, .slice none 0 0, .int .i64 0, .bool false, .bool false, .int .i64 0, .slice none 0 0, .int .i64 0, .bool false, .bool false, .int .i64 0, .slice none 0 0, .int .i64 0, .bool false, .bool false, .int .i64 0].toArray, [(0, 4), (4, 1), (5, 1), (6, 1), (7, 15)].toArray) := by kernel_rfl
theorem zero_71 : (Try.prog.info? 71).map (·.zero) = some (some (.nilFunc)) := by kernel_rfl
theorem zero_72 : (Try.prog.info? 72).map (·.zero) = some (some (.nilFunc)) := by kernel_rfl
theorem zero_73 : (Try.prog.info? 73).map (·.zero) = some (some (.nilFunc)) := by kernel_rfl
theorem zero_74 : (Try.prog.info? 74).map (·.zero) = some (some (.nilFunc)) := by kernel_rfl
theorem zero_75 : (Try.prog.info? 75).map (·.zero) = some (some (.nilFunc)) := by kernel_rfl
theorem zero_76 : (Try.prog.info? 76).map (·.zero) = some (some (.nilFunc)) := by kernel_rfl
theorem zero_77 : (Try.prog.info? 77).map (·.zero) = some (some (.nilFunc)) := by kernel_rfl
theorem zero_78 : (Try.prog.info? 78).map (·.zero) = some (some (.nilFunc)) := by kernel_rfl
theorem zero_79 : (Try.prog.info? 79).map (·.zero) = some (some (.slice none 0 0)) := by kernel_rfl
theorem zero_80 : (Try.prog.info? 80).map (·.zero) = some (some (.nilFunc)) := by kernel_rfl
theorem zero_81 : (Try.prog.info? 81).map (·.zero) = some (some (.nilFunc)) := by kernel_rfl
theorem zero_82 : (Try.prog.info? 82).map (·.zero) = some (some (.nilFunc)) := by kernel_rfl
theorem zero_84 : (Try.prog.info? 84).map (·.zero) = some (some (.nilFunc)) := by kernel_rfl
theorem zero_85 : (Try.prog.info? 85).map (·.zero) = some (some (.nilFunc)) := by kernel_rfl
theorem zero_86 : (Try.prog.info? 86).map (·.zero) = some (some (.agg #[.int .i64 0, .int .i64 0, .int .i64 0, .int .i64 0])) := by kernel_rfl
theorem lay_86 : layoutOf Try.prog 86 = some ([.int .i64 0, .int .i64 0, .int .i64 0, .int .i64 0].toArray, [(0, 1), (1, 1), (2, 1), (3, 1)].toArray) := by kernel_rfl
theorem zero_87 : (Try.prog.info? 87).map (·.zero) = some (some (.agg #[.int .i64 0, .int .i64 0, .int .i64 0, .int .i64 0])) := by kernel_rfl
theorem lay_87 : layoutOf Try.prog 87 = some ([.int .i64 0, .int .i64 0, .int .i64 0, .int .i64 0].toArray, [(0, 1), (1, 1), (2, 1), (3, 1)].toArray) := by kernel_rfl
theorem zero_88 : (Try.prog.info? 88).map (·.zero) = some (some (.nilFunc)) := by kernel_rfl
theorem zero_89 : (Try.prog.info? 89).map (·.zero) = some (some (.nilFunc)) := by kernel_rfl
theorem zero_90 : (Try.prog.info? 90).map (·.zero) = some (some (.nilFunc)) := by kernel_rfl
theorem zero_91 : (Try.prog.info? 91).map (·.zero) = some (some (.nilFunc)) := by kernel_rfl
theorem zero_92 : (Try.prog.info? 92).map (·.zero) = some (some (.nilFunc)) := by kernel_rfl
theorem zero_93 : (Try.prog.info? 93).map (·.zero) = some (some (.nilIface)) := by kernel_rfl
theorem zero_94 : (Try.prog.info? 94).map (·.zero) = some (some (.nilIface)) := by kernel_rfl
theorem zero_95 : (Try.prog.info? 95).map (·.zero) = some (some (.agg #[.nilIface, .nilIface, .nilIface])) := by kernel_rfl
theorem zero_96 : (Try.prog.info? 96).map (·.zero) = some (some (.agg #[.int .i64 0, .int .i64 0, .slice none 0 0, .slice none 0 0, .slice none 0 0, .nilIface, .nilIface, .nilIface, .slice none 0 0])) := by kernel_rfl
theorem lay_96 : layoutOf Try.prog 96 = some ([.int .i64 0, .int .i64 0, .slice none 0 0, .slice none 0 0, .slice none 0 0, .nilIface, .nilIface, .nilIface, .slice none 0 0].toArray, [(0, 4), (4, 1), (5, 3), (8, 1)].toArray) := by kernel_rfl
theorem zero_97 : (Try.prog.info? 97).map (·.zero) = some (some (.agg #[.int .i64 0, .int .i64 0, .slice none 0 0, .slice none 0 0, .slice none 0 0, .nilIface, .nilIface, .nilIface, .slice none 0 0])) := by kernel_rfl
theorem lay_97 : layoutOf Try.prog 97 = some ([.int .i64 0, .int .i64 0, .slice none 0 0, .slice none 0 0, .slice none 0 0, .nilIface, .nilIface, .nilIface, .slice none 0 0].toArray, [(0, 4), (4, 1), (5, 3), (8, 1)].toArray) := by kernel_rfl
theorem zero_98 : (Try.prog.info? 98).map (·.zero) = some (some (.pointer none)) := by kernel_rfl
theorem zero_99 : (Try.prog.info? 99).map (·.zero) = some (some (.map none)) := by kernel_rfl
theorem zero_100 : (Try.prog.info? 100).map (·.zero) = some (some (.slice none 0 0)) := by kernel_rfl
theorem zero_101 : (Try.prog.info? 101).map (·.zero) = some (some (.agg #[.slice none 0 0, .int .i64 0, .int .i64 0, .bool false])) := by kernel_rfl
theorem lay_101 : layoutOf Try.prog 101 = some ([.slice none 0 0, .int .i64 0, .int .i64 0, .bool false].toArray, [(0, 1), (1, 1), (2, 1), (3, 1)].toArray) := by kernel_rfl
theorem zero_102 : (Try.prog.info? 102).map (·.zero) = some (some (.agg #[.slice none 0 0, .int .i64 0, .int .i64 0, .bool false])) := by kernel_rfl
theorem lay_102 : layoutOf Try.prog 102 = some ([.slice none 0 0, .int .i64 0, .int .i64 0, .bool false].toArray, [(0, 1), (1, 1), (2, 1), (3, 1)].toArray) := by kernel_rfl
theorem zero_103 : (Try.prog.info? 103).map (·.zero) = some (some (.agg #[.slice none 0 0, .int .i64 0, .int .i64 0, .bool false, .pointer none, .map none])) := by kernel_rfl
theorem lay_103 : layoutOf Try.prog 103 = some ([.slice none 0 0, .int .i64 0, .int .i64 0, .bool false, .pointer none, .map none].toArray, [(0, 4), (4, 1), (5, 1)].toArray) := by kernel_rfl
theorem zero_104 : (Try.prog.info? 104).map (·.zero) = some (some (.agg #[.slice none 0 0, .int .i64 0, .int .i64 0, .bool false, .pointer none, .map none])) := by kernel_rfl
theorem lay_104 : layoutOf Try.prog 104 = some ([.slice none 0 0, .int .i64 0, .int .i64 0, .bool false, .pointer none, .map none].toArray, [(0, 4), (4, 1), (5, 1)].toArray) := by kernel_rfl
theorem zero_105 : (Try.prog.info? 105).map (·.zero) = some (some (.pointer none)) := by kernel_rfl
theorem zero_106 : (Try.prog.info? 106).map (·.zero) = some (some (.nilFunc)) := by kernel_rfl
theorem zero_107 : (Try.prog.info? 107).map (·.zero) = some (some (.agg #[.slice none 0 0, .int .i64 0, .int .i64 0, .bool false, .pointer none, .int .i64 0, .slice none 0 0])) := by kernel_rfl
theorem lay_107 : layoutOf Try.prog 107 = some ([.slice none 0 0, .int .i64 0, .int .i64 0, .bool false, .pointer none, .int .i64 0, .slice none 0 0].toArray, [(0, 4), (4, 1), (5, 1), (6, 1)].toArray) := by kernel_rfl
theorem zero_108 : (Try.prog.info? 108).map (·.zero) = some (some (.agg #[.slice none 0 0, .int .i64 0, .int .i64 0, .bool false, .pointer none, .int .i64 0, .slice none 0 0])) := by kernel_rfl
theorem lay_108 : layoutOf Try.prog 108 = some ([.slice none 0 0, .int .i64 0, .int .i64 0, .bool false, .pointer none, .int .i64 0, .slice none 0 0].toArray, [(0, 4), (4, 1), (5, 1), (6, 1)].toArray) := by kernel_rfl
theorem zero_110 : (Try.prog.info? 110).map (·.zero) = some (some (.nilFunc)) := by kernel_rfl
theorem zero_112 : (Try.prog.info? 112).map (·.zero) = some (some (.nilFunc)) := by kernel_rfl
theorem zero_113 : (Try.prog.info? 113).map (·.zero) = some (some (.nilFunc)) := by kernel_rfl
theorem zero_114 : (Try.prog.info? 114).map (·.zero) = some (some (.pointer none)) := by kernel_rfl
theorem zero_115 : (Try.prog.info? 115).map (·.zero) = some (some (.nilFunc)) := by kernel_rfl
theorem zero_116 : (Try.prog.info? 116).map (·.zero) = some (some (.nilFunc)) := by kernel_rfl
theorem zero_117 : (Try.prog.info? 117).map (·.zero) = some (some (.nilFunc)) := by kernel_rfl
theorem zero_119 : (Try.prog.info? 119).map (·.zero) = some (some (.nilFunc)) := by kernel_rfl
theorem zero_120 : (Try.prog.info? 120).map (·.zero) = some (some (.nilFunc)) := by kernel_rfl
theorem zero_121 : (Try.prog.info? 121).map (·.zero) = some (some (.agg #[.int .i64 0, .int .i64 0])) := by kernel_rfl
theorem lay_121 : layoutOf Try.prog 121 = some ([.int .i64 0, .int .i64 0].toArray, [(0, 1), (1, 1)].toArray) := by kernel_rfl
theorem zero_122 : (Try.prog.info? 122).map (·.zero) = some (some (.agg #[.int .i64 0, .int .i64 0])) := by kernel_rfl
theorem lay_122 : layoutOf Try.prog 122 = some ([.int .i64 0, .int .i64 0].toArray, [(0, 1), (1, 1)].toArray) := by kernel_rfl
theorem zero_123 : (Try.prog.info? 123).map (·.zero) = some (some (.agg #[.bool false, .bool false, .bool false])) := by kernel_rfl
theorem zero_124 : (Try.prog.info? 124).map (·.zero) = some (some (.agg #[.int .i64 0, .int .i64 0, .bool false, .bool false, .bool false])) := by kernel_rfl
theorem lay_124 : layoutOf Try.prog 124 = some ([.int .i64 0, .int .i64 0, .bool false, .bool false, .bool false].toArray, [(0, 1), (1, 1), (2, 3)].toArray) := by kernel_rfl
theorem zero_125 : (Try.prog.info? 125).map (·.zero) = some (some (.agg #[.int .i64 0, .int .i64 0, .bool false, .bool false, .bool false])) := by kernel_rfl
theorem lay_125 : layoutOf Try.prog 125 = some ([.int .i64 0, .int .i64 0, .bool false, .bool false, .bool false].toArray, [(0, 1), (1, 1), (2, 3)].toArray) := by kernel_rfl
theorem zero_126 : (Try.prog.info? 126).map (·.zero) = some (some (.agg #[.int .i64 0, .bool false, .bool false, .bool false, .int .i64 0])) := by kernel_rfl
theorem lay_126 : layoutOf Try.prog 126 = some ([.int .i64 0, .bool false, .bool false, .bool false, .int .i64 0].toArray, [(0, 1), (1, 3), (4, 1)].toArray) := by kernel_rfl
theorem zero_127 : (Try.prog.info? 127).map (·.zero) = some (some (.agg #[.int .i64 0, .bool false, .bool false, .bool false, .int .i64 0])) := by kernel_rfl
theorem lay_127 : layoutOf Try.prog 127 = some ([.int .i64 0, .bool false, .bool false, .bool false, .int .i64 0].toArray, [(0, 1), (1, 3), (4, 1)].toArray) := by kernel_rfl
theorem zero_129 : (Try.prog.info? 129).map (·.zero) = some (some (.nilFunc)) := by kernel_rfl
theorem zero_130 : (Try.prog.info? 130).map (·.zero) = some (some (.nilFunc)) := by kernel_rfl
theorem zero_132 : (Try.prog.info? 132).map (·.zero) = some (some (.nilFunc)) := by kernel_rfl
theorem zero_134 : (Try.prog.info? 134).map (·.zero) = some (some (.nilFunc)) := by kernel_rfl
theorem zero_135 : (Try.prog.info? 135).map (·.zero) = some (some (.nilFunc)) := by kernel_rfl
theorem zero_136 : (Try.prog.info? 136).map (·.zero) = some (some (.agg #[.int .i64 0, .int .i64 0, .int .i64 0, .int .i64 0])) := by kernel_rfl
theorem lay_136 : layoutOf Try.prog 136 = some ([.int .i64 0, .int .i64 0, .int .i64 0, .int .i64 0].toArray, [(0, 1), (1, 1), (2, 1), (3, 1)].toArray) := by kernel_rfl
theorem zero_138 : (Try.prog.info? 138).map (·.zero) = some (some (.nilFunc)) := by kernel_rfl
theorem zero_139 : (Try.prog.info? 139).map (·.zero) = some (some (.nilFunc)) := by kernel_rfl
theorem zero_140 : (Try.prog.info? 140).map (·.zero) = some (some (.nilFunc)) := by kernel_rfl
theorem zero_141 : (Try.prog.info? 141).map (·.zero) = some (some (.nilFunc)) := by kernel_rfl
theorem zero_143 : (Try.prog.info? 143).map (·.zero) = some (some (.agg #[.int .i64 0, .int .i64 0])) := by kernel_rfl
theorem lay_143 : layoutOf Try.prog 143 = some ([.int .i64 0, .int .i64 0].toArray, [(0, 1), (1, 1)].toArray) := by kernel_rfl
theorem zero_144 : (Try.prog.info? 144).map (·.zero) = some (some (.agg #[.int .i64 0, .int .i64 0])) := by kernel_rfl
theorem lay_144 : layoutOf Try.prog 144 = some ([.int .i64 0, .int .i64 0].toArray, [(0, 1), (1, 1)].toArray) := by kernel_rfl
theorem zero_145 : (Try.prog.info? 145).map (·.zero) = some (some (.nilFunc)) := by kernel_rfl
theorem zero_146 : (Try.prog.info? 146).map (·.zero) = some (some (.nilFunc)) := by kernel_rfl
theorem zero_147 : (Try.prog.info? 147).map (·.zero) = some (some (.slice none 0 0)) := by kernel_rfl
theorem zero_148 : (Try.prog.info? 148).map (·.zero) = some (some (.nilFunc)) := by kernel_rfl
theorem zero_149 : (Try.prog.info? 149).map (·.zero) = some (some (.agg #[])) := by kernel_rfl
theorem lay_149 : layoutOf Try.prog 149 = some ([].toArray, [].toArray) := by kernel_rfl
theorem zero_150 : (Try.prog.info? 150).map (·.zero) = some (some (.agg #[])) := by kernel_rfl
theorem lay_150 : layoutOf Try.prog 150 = some ([].toArray, [].toArray) := by kernel_rfl
theorem zero_151 : (Try.prog.info? 151).map (·.zero) = some (some (.nilFunc)) := by kernel_rfl
theorem zero_152 : (Try.prog.info? 152).map (·.zero) = some (some (.nilFunc)) := by kernel_rfl
theorem zero_154 : (Try.prog.info? 154).map (·.zero) = some (some (.nilFunc)) := by kernel_rfl
theorem zero_155 : (Try.prog.info? 155).map (·.zero) = some (some (.nilFunc)) := by kernel_rfl
theorem zero_156 : (Try.prog.info? 156).map (·.zero) = some (some (.nilFunc)) := by kernel_rfl
theorem zero_157 : (Try.prog.info? 157).map (·.zero) = some (some (.nilFunc)) := by kernel_rfl
theorem zero_158 : (Try.prog.info? 158).map (·.zero) = some (some (.nilFunc)) := by kernel_rfl
theorem zero_159 : (Try.prog.info? 159).map (·.zero) = some (some (.nilFunc)) := by kernel_rfl
theorem zero_160 : (Try.prog.info? 160).map (·.zero) = some (some (.nilFunc)) := by kernel_rfl
theorem zero_163 : (Try.prog.info? 163).map (·.zero) = some (some (.agg #[])) := by kernel_rfl
theorem zero_164 : (Try.prog.info? 164).map (·.zero) = some (some (.agg #[])) := by kernel_rfl
theorem lay_164 : layoutOf Try.prog 164 = some ([].toArray, [(0, 0)].toArray) := by kernel_rfl
theorem zero_165 : (Try.prog.info? 165).map (·.zero) = some (some (.agg #[])) := by kernel_rfl
theorem lay_165 : layoutOf Try.prog 165 = some ([].toArray, [(0, 0)].toArray) := by kernel_rfl
theorem zero_166 : (Try.prog.info? 166).map (·.zero) = some (some (.nilFunc)) := by kernel_rfl
theorem zero_167 : (Try.prog.info? 167).map (·.zero) = some (some (.int .u32 0)) := by kernel_rfl
theorem zero_168 : (Try.prog.info? 168).map (·.zero) = some (some (.int .u8 0)) := by kernel_rfl
theorem zero_169 : (Try.prog.info? 169).map (·.zero) = some (some (.int .u8 0)) := by kernel_rfl
theorem zero_170 : (Try.prog.info? 170).map (·.zero) = some (some (.nilFunc)) := by kernel_rfl
theorem zero_171 : (Try.prog.info? 171).map (·.zero) = some (some (.pointer none)) := by kernel_rfl
theorem zero_172 : (Try.prog.info? 172).map (·.zero) = some (some (.int .i32 0)) := by kernel_rfl
theorem zero_173 : (Try.prog.info? 173).map (·.zero) = some (some (.int .i32 0)) := by kernel_rfl
theorem zero_174 : (Try.prog.info? 174).map (·.zero) = some (some (.agg #[.int .u64 0, .int .u64 0, .int .u32 0, .int .u8 0, .int .u8 0, .int .u8 0, .int .u8 0, .nilFunc, .pointer none, .int .i32 0, .int .i32 0])) := by kernel_rfl
theorem lay_174 : layoutOf Try.prog 174 = some ([.int .u64 0, .int .u64 0, .int .u32 0, .int .u8 0, .int .u8 0, .int .u8 0, .int .u8 0, .nilFunc, .pointer none, .int .i32 0, .int .i32 0].toArray, [(0, 1), (1, 1), (2, 1), (3, 1), (4, 1), (5, 1), (6, 1), (7, 1), (8, 1), (9, 1), (10, 1)].toArray) := by kernel_rfl
theorem zero_175 : (Try.prog.info? 175).map (·.zero) = some (some (.agg #[.int .u64 0, .int .u64 0, .int .u32 0, .int .u8 0, .int .u8 0, .int .u8 0, .int .u8 0, .nilFunc, .pointer none, .int .i32 0, .int .i32 0])) := by kernel_rfl
theorem lay_175 : layoutOf Try.prog 175 = some ([.int .u64 0, .int .u64 0, .int .u32 0, .int .u8 0, .int .u8 0, .int .u8 0, .int .u8 0, .nilFunc, .pointer none, .int .i32 0, .int .i32 0].toArray, [(0, 1), (1, 1), (2, 1), (3, 1), (4, 1), (5, 1), (6, 1), (7, 1), (8, 1), (9, 1), (10, 1)].toArray) := by kernel_rfl
theorem zero_176 : (Try.prog.info? 176).map (·.zero) = some (some (.nilFunc)) := by kernel_rfl
theorem callable_3 : Callable Try.prog 3 := ⟨_, Try.func3, by kernel_rfl, by kernel_rfl⟩
theorem callable_4 : Callable Try.prog 4 := ⟨_, Try.func4, by kernel_rfl, by kernel_rfl⟩
theorem callable_5 : Callable Try.prog 5 := ⟨_, Try.func5, by kernel_rfl, by kernel_rfl⟩
theorem callable_6 : Callable Try.prog 6 := ⟨_, Try.func6, by kernel_rfl, by kernel_rfl⟩
theorem callable_7 : Callable Try.prog 7 := ⟨_, Try.func7, by kernel_rfl, by kernel_rfl⟩
theorem callable_8 : Callable Try.prog 8 := ⟨_, Try.func8, by kernel_rfl, by kernel_rfl⟩
theorem callable_9 : Callable Try.prog 9 := ⟨_, Try.func9, by kernel_rfl, by kernel_rfl⟩
theorem callable_10 : Callable Try.prog 10 := ⟨_, Try.func10, by kernel_rfl, by kernel_rfl⟩
theorem callable_11 : Callable Try.prog 11 := ⟨_, Try.func11, by kernel_rfl, by kernel_rfl⟩
theorem callable_12 : Callable Try.prog 12 := ⟨_, Try.func12, by kernel_rfl, by kernel_rfl⟩
theorem callable_13 : Callable Try.prog 13 := ⟨_, Try.func13, by kernel_rfl, by kernel_rfl⟩
theorem callable_14 : Callable Try.prog 14 := ⟨_, Try.func14, by kernel_rfl, by kernel_rfl⟩
theorem callable_15 : Callable Try.prog 15 := ⟨_, Try.func15, by kernel_rfl, by kernel_rfl⟩
theorem callable_16 : Callable Try.prog 16 := ⟨_, Try.func16, by kernel_rfl, by kernel_rfl⟩
theorem callable_17 : Callable Try.prog 17 := ⟨_, Try.func17, by kernel_rfl, by kernel_rfl⟩
theorem callable_18 : Callable Try.prog 18 := ⟨_, Try.func18, by kernel_rfl, by kernel_rfl⟩
theorem callable_19 : Callable Try.prog 19 := ⟨_, Try.func19, by kernel_rfl, by kernel_rfl⟩
theorem callable_20 : Callable Try.prog 20 := ⟨_, Try.func20, by kernel_rfl, by kernel_rfl⟩
theorem callable_21 : Callable Try.prog 21 := ⟨_, Try.func21, by kernel_rfl, by kernel_rfl⟩
theorem callable_22 : Callable Try.prog 22 := ⟨_, Try.func22, by kernel_rfl, by kernel_rfl⟩
theorem callable_23 : Callable Try.prog 23 := ⟨_, Try.func23, by kernel_rfl, by kernel_rfl⟩
theorem callable_24 : Callable Try.prog 24 := ⟨_, Try.func24, by kernel_rfl, by kernel_rfl⟩
theorem callable_25 : Callable Try.prog 25 := ⟨_, Try.func25, by kernel_rfl, by kernel_rfl⟩
theorem callable_26 : Callable Try.prog 26 := ⟨_, Try.func26, by kernel_rfl, by kernel_rfl⟩
theorem callable_27 : Callable Try.prog 27 := ⟨_, Try.func27, by kernel_rfl, by kernel_rfl⟩
theorem callable_28 : Callable Try.prog 28 := ⟨_, Try.func28, by kernel_rfl, by kernel_rfl⟩
theorem callable_29 : Callable Try.prog 29 := ⟨_, Try.func29, by kernel_rfl, by kernel_rfl⟩
theorem callable_30 : Callable Try.prog 30 := ⟨_, Try.func30, by kernel_rfl, by kernel_rfl⟩
theorem callable_31 : Callable Try.prog 31 := ⟨_, Try.func31, by kernel_rfl, by kernel_rfl⟩
theorem callable_32 : Callable Try.prog 32 := ⟨_, Try.func32, by kernel_rfl, by kernel_rfl⟩
theorem callable_33 : Callable Try.prog 33 := ⟨_, Try.func33, by kernel_rfl, by kernel_rfl⟩
theorem callable_34 : Callable Try.prog 34 := ⟨_, Try.func34, by kernel_rfl, by kernel_rfl⟩
theorem callable_35 : Callable Try.prog 35 := ⟨_, Try.func35, by kernel_rfl, by kernel_rfl⟩
theorem callable_36 : Callable Try.prog 36 := ⟨_, Try.func36, by kernel_rfl, by kernel_rfl⟩
theorem callable_37 : Callable Try.prog 37 := ⟨_, Try.func37, by kernel_rfl, by kernel_rfl⟩
theorem callable_38 : Callable Try.prog 38 := ⟨_, Try.func38, by kernel_rfl, by kernel_rfl⟩
theorem callable_39 : Callable Try.prog 39 := ⟨_, Try.func39, by kernel_rfl, by kernel_rfl⟩
theorem callable_40 : Callable Try.prog 40 := ⟨_, Try.func40, by kernel_rfl, by kernel_rfl⟩
theorem callable_41 : Callable Try.prog 41 := ⟨_, Try.func41, by kernel_rfl, by kernel_rfl⟩
theorem callable_42 : Callable Try.prog 42 := ⟨_, Try.func42, by kernel_rfl, by kernel_rfl⟩
theorem callable_43 : Callable Try.prog 43 := ⟨_, Try.func43, by kernel_rfl, by kernel_rfl⟩
theorem callable_44 : Callable Try.prog 44 := ⟨_, Try.func44, by kernel_rfl, by kernel_rfl⟩
theorem callable_45 : Callable Try.prog 45 := ⟨_, Try.func45, by kernel_rfl, by kernel_rfl⟩
theorem callable_46 : Callable Try.prog 46 := ⟨_, Try.func46, by kernel_rfl, by kernel_rfl⟩
theorem callable_47 : Callable Try.prog 47 := ⟨_, Try.func47, by kernel_rfl, by kernel_rfl⟩
theorem callable_48 : Callable Try.prog 48 := ⟨_, Try.func48, by kernel_rfl, by kernel_rfl⟩
theorem callable_49 : Callable Try.prog 49 := ⟨_, Try.func49, by kernel_rfl, by kernel_rfl⟩
theorem callable_50 : Callable Try.prog 50 := ⟨_, Try.func50, by kernel_rfl, by kernel_rfl⟩
theorem callable_51 : Callable Try.prog 51 := ⟨_, Try.func51, by kernel_rfl, by kernel_rfl⟩
theorem callable_52 : Callable Try.prog 52 := ⟨_, Try.func52, by kernel_rfl, by kernel_rfl⟩
theorem callable_53 : Callable Try.prog 53 := ⟨_, Try.func53, by kernel_rfl, by kernel_rfl⟩
theorem callable_54 : Callable Try.prog 54 := ⟨_, Try.func54, by kernel_rfl, by kernel_rfl⟩
theorem callable_55 : Callable Try.prog 55 := ⟨_, Try.func55, by kernel_rfl, by kernel_rfl⟩
theorem callable_56 : Callable Try.prog 56 := ⟨_, Try.func56, by kernel_rfl, by kernel_rfl⟩
theorem callable_57 : Callable Try.prog 57 := ⟨_, Try.func57, by kernel_rfl, by kernel_rfl⟩
theorem callable_58 : Callable Try.prog 58 := ⟨_, Try.func58, by kernel_rfl, by kernel_rfl⟩
theorem callable_59 : Callable Try.prog 59 := ⟨_, Try.func59, by kernel_rfl, by kernel_rfl⟩
theorem callable_60 : Callable Try.prog 60 := ⟨_, Try.func60, by kernel_rfl, by kernel_rfl⟩
theorem callable_61 : Callable Try.prog 61 := ⟨_, Try.func61, by kernel_rfl, by kernel_rfl⟩
theorem callable_62 : Callable Try.prog 62 := ⟨_, Try.func62, by kernel_rfl, by kernel_rfl⟩
theorem callable_63 : Callable Try.prog 63 := ⟨_, Try.func63, by kernel_rfl, by kernel_rfl⟩
theorem callable_64 : Callable Try.prog 64 := ⟨_, Try.func64, by kernel_rfl, by kernel_rfl⟩
theorem callable_65 : Callable Try.prog 65 := ⟨_, Try.func65, by kernel_rfl, by kernel_rfl⟩
theorem callable_66 : Callable Try.prog 66 := ⟨_, Try.func66, by kernel_rfl, by kernel_rfl⟩
theorem callable_67 : Callable Try.prog 67 := ⟨_, Try.func67, by kernel_rfl, by kernel_rfl⟩
theorem callable_68 : Callable Try.prog 68 := ⟨_, Try.func68, by kernel_rfl, by kernel_rfl⟩
theorem callable_69 : Callable Try.prog 69 := ⟨_, Try.func69, by kernel_rfl, by kernel_rfl⟩
theorem callable_70 : Callable Try.prog 70 := ⟨_, Try.func70, by kernel_rfl, by kernel_rfl⟩
theorem callable_71 : Callable Try.prog 71 := ⟨_, Try.func71, by kernel_rfl, by kernel_rfl⟩
theorem callable_72 : Callable Try.prog 72 := ⟨_, Try.func72, by kernel_rfl, by kernel_rfl⟩
theorem callable_73 : Callable Try.prog 73 := ⟨_, Try.func73, by kernel_rfl, by kernel_rfl⟩
theorem callable_74 : Callable Try.prog 74 := ⟨_, Try.func74, by kernel_rfl, by kernel_rfl⟩
theorem callable_75 : Callable Try.prog 75 := ⟨_, Try.func75, by kernel_rfl, by kernel_rfl⟩
theorem callable_76 : Callable Try.prog 76 := ⟨_, Try.func76, by kernel_rfl, by kernel_rfl⟩
theorem callable_77 : Callable Try.prog 77 := ⟨_, Try.func77, by kernel_rfl, by kernel_rfl⟩
theorem callable_78 : Callable Try.prog 78 := ⟨_, Try.func78, by kernel_rfl, by kernel_rfl⟩
theorem callable_79 : Callable Try.prog 79 := ⟨_, Try.func79, by kernel_rfl, by kernel_rfl⟩
theorem callable_80 : Callable Try.prog 80 := ⟨_, Try.func80, by kernel_rfl, by kernel_rfl⟩
theorem callable_81 : Callable Try.prog 81 := ⟨_, Try.func81, by kernel_rfl, by kernel_rfl⟩
theorem callable_82 : Callable Try.prog 82 := ⟨_, Try.func82, by kernel_rfl, by kernel_rfl⟩
theorem callable_83 : Callable Try.prog 83 := ⟨_, Try.func83, by kernel_rfl, by kernel_rfl⟩
theorem callable_84 : Callable Try.prog 84 := ⟨_, Try.func84, by kernel_rfl, by kernel_rfl⟩
theorem callable_85 : Callable Try.prog 85 := ⟨_, Try.func85, by kernel_rfl, by kernel_rfl⟩
theorem callable_86 : Callable Try.prog 86 := ⟨_, Try.func86, by kernel_rfl, by kernel_rfl⟩
theorem callable_87 : Callable Try.prog 87 := ⟨_, Try.func87, by kernel_rfl, by kernel_rfl⟩
theorem callable_88 : Callable Try.prog 88 := ⟨_, Try.func88, by kernel_rfl, by kernel_rfl⟩
theorem callable_89 : Callable Try.prog 89 := ⟨_, Try.func89, by kernel_rfl, by kernel_rfl⟩
theorem callable_90 : Callable Try.prog 90 := ⟨_, Try.func90, by kernel_rfl, by kernel_rfl⟩
theorem callable_106 : Callable Try.prog 106 := ⟨_, Try.func106, by kernel_rfl, by kernel_rfl⟩
theorem callable_107 : Callable Try.prog 107 := ⟨_, Try.func107, by kernel_rfl, by kernel_rfl⟩
theorem callable_108 : Callable Try.prog 108 := ⟨_, Try.func108, by kernel_rfl, by kernel_rfl⟩
theorem callable_109 : Callable Try.prog 109 := ⟨_, Try.func109, by kernel_rfl, by kernel_rfl⟩
theorem callable_110 : Callable Try.prog 110 := ⟨_, Try.func110, by kernel_rfl, by kernel_rfl⟩
theorem callable_111 : Callable Try.prog 111 := ⟨_, Try.func111, by kernel_rfl, by kernel_rfl⟩
theorem callable_112 : Callable Try.prog 112 := ⟨_, Try.func112, by kernel_rfl, by kernel_rfl⟩
theorem callable_113 : Callable Try.prog 113 := ⟨_, Try.func113, by kernel_rfl, by kernel_rfl⟩
theorem callable_114 : Callable Try.prog 114 := ⟨_, Try.func114, by kernel_rfl, by kernel_rfl⟩
theorem callable_115 : Callable Try.prog 115 := ⟨_, Try.func115, by kernel_rfl, by kernel_rfl⟩
theorem callable_116 : Callable Try.prog 116 := ⟨_, Try.func116, by kernel_rfl, by kernel_rfl⟩
theorem callable_117 : Callable Try.prog 117 := ⟨_, Try.func117, by kernel_rfl, by kernel_rfl⟩
theorem callable_118 : Callable Try.prog 118 := ⟨_, Try.func118, by kernel_rfl, by kernel_rfl⟩
end Go.Proofs.Yteagflekbbchhaa
