/- Tables of the program types and of its functions orders. -/
import Derived.Test.YtnmjdelnllchdaaSxI
import Derived.Test.YtnmjdelnllchdaaSxF
import Derived.Test.YtnmjdelnllchdaaProg
namespace Go.Proofs
set_option linter.unusedVariables false
set_option linter.unusedSimpArgs false
set_option linter.unusedSectionVars false
open Go Go.SX Go.RowKit
theorem tok1 : TI.ok Try.prog 1 ⟨.func, 1, 8, .nilFunc⟩ := ⟨by kernel_rfl, by kernel_rfl⟩
theorem tok2 : TI.ok Try.prog 2 ⟨.int .i64, 1, 8, .int .i64 0⟩ := ⟨by kernel_rfl, by kernel_rfl⟩
theorem tok3 : TI.ok Try.prog 3 ⟨.int .i64, 1, 8, .int .i64 0⟩ := ⟨by kernel_rfl, by kernel_rfl⟩
theorem tok4 : TI.ok Try.prog 4 ⟨.bool, 1, 1, .bool false⟩ := ⟨by kernel_rfl, by kernel_rfl⟩
theorem tok5 : TI.ok Try.prog 5 ⟨.int .u8, 1, 1, .int .u8 0⟩ := ⟨by kernel_rfl, by kernel_rfl⟩
theorem tok6 : TI.ok Try.prog 6 ⟨.int .u8, 1, 1, .int .u8 0⟩ := ⟨by kernel_rfl, by kernel_rfl⟩
theorem tok7 : TI.ok Try.prog 7 ⟨.struct [(0, 2), (1, 3), (2, 4), (3, 6)], 4, 24, .agg #[.int .i64 0, .int .i64 0, .bool false, .int .u8 0]⟩ := ⟨by kernel_rfl, by kernel_rfl⟩
theorem tok8 : TI.ok Try.prog 8 ⟨.struct [(0, 2), (1, 3), (2, 4), (3, 6)], 4, 24, .agg #[.int .i64 0, .int .i64 0, .bool false, .int .u8 0]⟩ := ⟨by kernel_rfl, by kernel_rfl⟩
theorem tok9 : TI.ok Try.prog 9 ⟨.str, 1, 16, .string ⟨#[]⟩⟩ := ⟨by kernel_rfl, by kernel_rfl⟩
theorem tok10 : TI.ok Try.prog 10 ⟨.str, 1, 16, .string ⟨#[]⟩⟩ := ⟨by kernel_rfl, by kernel_rfl⟩
theorem tok11 : TI.ok Try.prog 11 ⟨.str, 1, 16, .string ⟨#[]⟩⟩ := ⟨by kernel_rfl, by kernel_rfl⟩
theorem tok12 : TI.ok Try.prog 12 ⟨.int .u64, 1, 8, .int .u64 0⟩ := ⟨by kernel_rfl, by kernel_rfl⟩
theorem tok13 : TI.ok Try.prog 13 ⟨.struct [(0, 9), (1, 12)], 2, 24, .agg #[.string ⟨#[]⟩, .int .u64 0]⟩ := ⟨by kernel_rfl, by kernel_rfl⟩
theorem tok14 : TI.ok Try.prog 14 ⟨.struct [(0, 9), (1, 12)], 2, 24, .agg #[.string ⟨#[]⟩, .int .u64 0]⟩ := ⟨by kernel_rfl, by kernel_rfl⟩
theorem tok15 : TI.ok Try.prog 15 ⟨.ptr 113, 1, 8, .pointer none⟩ := ⟨by kernel_rfl, by kernel_rfl⟩
theorem tok16 : TI.ok Try.prog 16 ⟨.ptr 116, 1, 8, .pointer none⟩ := ⟨by kernel_rfl, by kernel_rfl⟩
theorem tok17 : TI.ok Try.prog 17 ⟨.ptr 125, 1, 8, .pointer none⟩ := ⟨by kernel_rfl, by kernel_rfl⟩
theorem tok18 : TI.ok Try.prog 18 ⟨.struct [(0, 17)], 1, 8, .agg #[.pointer none]⟩ := ⟨by kernel_rfl, by kernel_rfl⟩
theorem tok19 : TI.ok Try.prog 19 ⟨.struct [(0, 17)], 1, 8, .agg #[.pointer none]⟩ := ⟨by kernel_rfl, by kernel_rfl⟩
theorem tok20 : TI.ok Try.prog 20 ⟨.iface, 1, 16, .nilIface⟩ := ⟨by kernel_rfl, by kernel_rfl⟩
theorem tok21 : TI.ok Try.prog 21 ⟨.int .i32, 1, 4, .int .i32 0⟩ := ⟨by kernel_rfl, by kernel_rfl⟩
theorem tok22 : TI.ok Try.prog 22 ⟨.slice 42, 1, 24, .slice none 0 0⟩ := ⟨by kernel_rfl, by kernel_rfl⟩
theorem tok23 : TI.ok Try.prog 23 ⟨.struct [(0, 3), (1, 3), (2, 3), (3, 22)], 4, 48, .agg #[.int .i64 0, .int .i64 0, .int .i64 0, .slice none 0 0]⟩ := ⟨by kernel_rfl, by kernel_rfl⟩
theorem tok24 : TI.ok Try.prog 24 ⟨.struct [(0, 3), (1, 3), (2, 3), (3, 22)], 4, 48, .agg #[.int .i64 0, .int .i64 0, .int .i64 0, .slice none 0 0]⟩ := ⟨by kernel_rfl, by kernel_rfl⟩
theorem tok25 : TI.ok Try.prog 25 ⟨.slice 51, 1, 24, .slice none 0 0⟩ := ⟨by kernel_rfl, by kernel_rfl⟩
theorem tok26 : TI.ok Try.prog 26 ⟨.slice 3, 1, 24, .slice none 0 0⟩ := ⟨by kernel_rfl, by kernel_rfl⟩
theorem tok27 : TI.ok Try.prog 27 ⟨.func, 1, 8, .nilFunc⟩ := ⟨by kernel_rfl, by kernel_rfl⟩
theorem tok28 : TI.ok Try.prog 28 ⟨.func, 1, 8, .nilFunc⟩ := ⟨by kernel_rfl, by kernel_rfl⟩
theorem tok29 : TI.ok Try.prog 29 ⟨.func, 1, 8, .nilFunc⟩ := ⟨by kernel_rfl, by kernel_rfl⟩
theorem tok30 : TI.ok Try.prog 30 ⟨.func, 1, 8, .nilFunc⟩ := ⟨by kernel_rfl, by kernel_rfl⟩
theorem tok31 : TI.ok Try.prog 31 ⟨.func, 1, 8, .nilFunc⟩ := ⟨by kernel_rfl, by kernel_rfl⟩
theorem tok33 : TI.ok Try.prog 33 ⟨.func, 1, 8, .nilFunc⟩ := ⟨by kernel_rfl, by kernel_rfl⟩
theorem tok34 : TI.ok Try.prog 34 ⟨.func, 1, 8, .nilFunc⟩ := ⟨by kernel_rfl, by kernel_rfl⟩
theorem tok35 : TI.ok Try.prog 35 ⟨.int .i64, 1, 8, .int .i64 0⟩ := ⟨by kernel_rfl, by kernel_rfl⟩
theorem tok36 : TI.ok Try.prog 36 ⟨.func, 1, 8, .nilFunc⟩ := ⟨by kernel_rfl, by kernel_rfl⟩
theorem tok37 : TI.ok Try.prog 37 ⟨.func, 1, 8, .nilFunc⟩ := ⟨by kernel_rfl, by kernel_rfl⟩
theorem tok39 : TI.ok Try.prog 39 ⟨.func, 1, 8, .nilFunc⟩ := ⟨by kernel_rfl, by kernel_rfl⟩
theorem tok40 : TI.ok Try.prog 40 ⟨.slice 5, 1, 24, .slice none 0 0⟩ := ⟨by kernel_rfl, by kernel_rfl⟩
theorem tok41 : TI.ok Try.prog 41 ⟨.struct [(0, 3), (1, 3), (2, 40)], 3, 40, .agg #[.int .i64 0, .int .i64 0, .slice none 0 0]⟩ := ⟨by kernel_rfl, by kernel_rfl⟩
theorem tok42 : TI.ok Try.prog 42 ⟨.struct [(0, 3), (1, 3), (2, 40)], 3, 40, .agg #[.int .i64 0, .int .i64 0, .slice none 0 0]⟩ := ⟨by kernel_rfl, by kernel_rfl⟩
theorem tok43 : TI.ok Try.prog 43 ⟨.func, 1, 8, .nilFunc⟩ := ⟨by kernel_rfl, by kernel_rfl⟩
theorem tok45 : TI.ok Try.prog 45 ⟨.func, 1, 8, .nilFunc⟩ := ⟨by kernel_rfl, by kernel_rfl⟩
theorem tok46 : TI.ok Try.prog 46 ⟨.func, 1, 8, .nilFunc⟩ := ⟨by kernel_rfl, by kernel_rfl⟩
theorem tok47 : TI.ok Try.prog 47 ⟨.func, 1, 8, .nilFunc⟩ := ⟨by kernel_rfl, by kernel_rfl⟩
theorem tok49 : TI.ok Try.prog 49 ⟨.func, 1, 8, .nilFunc⟩ := ⟨by kernel_rfl, by kernel_rfl⟩
theorem tok50 : TI.ok Try.prog 50 ⟨.struct [(0, 3), (1, 3), (2, 3), (3, 3), (4, 3)], 5, 40, .agg #[.int .i64 0, .int .i64 0, .int .i64 0, .int .i64 0, .int .i64 0]⟩ := ⟨by kernel_rfl, by kernel_rfl⟩
theorem tok51 : TI.ok Try.prog 51 ⟨.struct [(0, 3), (1, 3), (2, 3), (3, 3), (4, 3)], 5, 40, .agg #[.int .i64 0, .int .i64 0, .int .i64 0, .int .i64 0, .int .i64 0]⟩ := ⟨by kernel_rfl, by kernel_rfl⟩
theorem tok53 : TI.ok Try.prog 53 ⟨.func, 1, 8, .nilFunc⟩ := ⟨by kernel_rfl, by kernel_rfl⟩
theorem tok54 : TI.ok Try.prog 54 ⟨.func, 1, 8, .nilFunc⟩ := ⟨by kernel_rfl, by kernel_rfl⟩
theorem tok55 : TI.ok Try.prog 55 ⟨.func, 1, 8, .nilFunc⟩ := ⟨by kernel_rfl, by kernel_rfl⟩
theorem tok56 : TI.ok Try.prog 56 ⟨.func, 1, 8, .nilFunc⟩ := ⟨by kernel_rfl, by kernel_rfl⟩
theorem tok57 : TI.ok Try.prog 57 ⟨.func, 1, 8, .nilFunc⟩ := ⟨by kernel_rfl, by kernel_rfl⟩
theorem tok58 : TI.ok Try.prog 58 ⟨.func, 1, 8, .nilFunc⟩ := ⟨by kernel_rfl, by kernel_rfl⟩
theorem tok59 : TI.ok Try.prog 59 ⟨.func, 1, 8, .nilFunc⟩ := ⟨by kernel_rfl, by kernel_rfl⟩
theorem tok60 : TI.ok Try.prog 60 ⟨.func, 1, 8, .nilFunc⟩ := ⟨by kernel_rfl, by kernel_rfl⟩
theorem tok61 : TI.ok Try.prog 61 ⟨.func, 1, 8, .nilFunc⟩ := ⟨by kernel_rfl, by kernel_rfl⟩
theorem tok62 : TI.ok Try.prog 62 ⟨.func, 1, 8, .nilFunc⟩ := ⟨by kernel_rfl, by kernel_rfl⟩
theorem tok63 : TI.ok Try.prog 63 ⟨.func, 1, 8, .nilFunc⟩ := ⟨by kernel_rfl, by kernel_rfl⟩
theorem tok64 : TI.ok Try.prog 64 ⟨.func, 1, 8, .nilFunc⟩ := ⟨by kernel_rfl, by kernel_rfl⟩
theorem tok65 : TI.ok Try.prog 65 ⟨.func, 1, 8, .nilFunc⟩ := ⟨by kernel_rfl, by kernel_rfl⟩
theorem tok66 : TI.ok Try.prog 66 ⟨.func, 1, 8, .nilFunc⟩ := ⟨by kernel_rfl, by kernel_rfl⟩
theorem tok67 : TI.ok Try.prog 67 ⟨.func, 1, 8, .nilFunc⟩ := ⟨by kernel_rfl, by kernel_rfl⟩
theorem tok68 : TI.ok Try.prog 68 ⟨.func, 1, 8, .nilFunc⟩ := ⟨by kernel_rfl, by kernel_rfl⟩
theorem tok70 : TI.ok Try.prog 70 ⟨.func, 1, 8, .nilFunc⟩ := ⟨by kernel_rfl, by kernel_rfl⟩
theorem tok71 : TI.ok Try.prog 71 ⟨.func, 1, 8, .nilFunc⟩ := ⟨by kernel_rfl, by kernel_rfl⟩
theorem tok72 : TI.ok Try.prog 72 ⟨.func, 1, 8, .nilFunc⟩ := ⟨by kernel_rfl, by kernel_rfl⟩
theorem tok73 : TI.ok Try.prog 73 ⟨.func, 1, 8, .nilFunc⟩ := ⟨by kernel_rfl, by kernel_rfl⟩
theorem tok74 : TI.ok Try.prog 74 ⟨.func, 1, 8, .nilFunc⟩ := ⟨by kernel_rfl, by kernel_rfl⟩
theorem tok75 : TI.ok Try.prog 75 ⟨.func, 1, 8, .nilFunc⟩ := ⟨by kernel_rfl, by kernel_rfl⟩
theorem tok76 : TI.ok Try.prog 76 ⟨.func, 1, 8, .nilFunc⟩ := ⟨by kernel_rfl, by kernel_rfl⟩
theorem tok77 : TI.ok Try.prog 77 ⟨.func, 1, 8, .nilFunc⟩ := ⟨by kernel_rfl, by kernel_rfl⟩
theorem tok78 : TI.ok Try.prog 78 ⟨.func, 1, 8, .nilFunc⟩ := ⟨by kernel_rfl, by kernel_rfl⟩
theorem tok79 : TI.ok Try.prog 79 ⟨.int .u64, 1, 8, .int .u64 0⟩ := ⟨by kernel_rfl, by kernel_rfl⟩
theorem tok80 : TI.ok Try.prog 80 ⟨.func, 1, 8, .nilFunc⟩ := ⟨by kernel_rfl, by kernel_rfl⟩
theorem tok81 : TI.ok Try.prog 81 ⟨.func, 1, 8, .nilFunc⟩ := ⟨by kernel_rfl, by kernel_rfl⟩
theorem tok82 : TI.ok Try.prog 82 ⟨.func, 1, 8, .nilFunc⟩ := ⟨by kernel_rfl, by kernel_rfl⟩
theorem tok83 : TI.ok Try.prog 83 ⟨.func, 1, 8, .nilFunc⟩ := ⟨by kernel_rfl, by kernel_rfl⟩
theorem tok84 : TI.ok Try.prog 84 ⟨.func, 1, 8, .nilFunc⟩ := ⟨by kernel_rfl, by kernel_rfl⟩
theorem tok85 : TI.ok Try.prog 85 ⟨.func, 1, 8, .nilFunc⟩ := ⟨by kernel_rfl, by kernel_rfl⟩
theorem tok87 : TI.ok Try.prog 87 ⟨.func, 1, 8, .nilFunc⟩ := ⟨by kernel_rfl, by kernel_rfl⟩
theorem tok88 : TI.ok Try.prog 88 ⟨.func, 1, 8, .nilFunc⟩ := ⟨by kernel_rfl, by kernel_rfl⟩
theorem tok89 : TI.ok Try.prog 89 ⟨.int .i64, 1, 8, .int .i64 0⟩ := ⟨by kernel_rfl, by kernel_rfl⟩
theorem tok91 : TI.ok Try.prog 91 ⟨.func, 1, 8, .nilFunc⟩ := ⟨by kernel_rfl, by kernel_rfl⟩
theorem tok92 : TI.ok Try.prog 92 ⟨.func, 1, 8, .nilFunc⟩ := ⟨by kernel_rfl, by kernel_rfl⟩
theorem tok93 : TI.ok Try.prog 93 ⟨.func, 1, 8, .nilFunc⟩ := ⟨by kernel_rfl, by kernel_rfl⟩
theorem tok94 : TI.ok Try.prog 94 ⟨.func, 1, 8, .nilFunc⟩ := ⟨by kernel_rfl, by kernel_rfl⟩
theorem tok95 : TI.ok Try.prog 95 ⟨.func, 1, 8, .nilFunc⟩ := ⟨by kernel_rfl, by kernel_rfl⟩
theorem tok96 : TI.ok Try.prog 96 ⟨.int .u32, 1, 4, .int .u32 0⟩ := ⟨by kernel_rfl, by kernel_rfl⟩
theorem tok97 : TI.ok Try.prog 97 ⟨.func, 1, 8, .nilFunc⟩ := ⟨by kernel_rfl, by kernel_rfl⟩
theorem tok98 : TI.ok Try.prog 98 ⟨.int .u64, 1, 8, .int .u64 0⟩ := ⟨by kernel_rfl, by kernel_rfl⟩
theorem tok99 : TI.ok Try.prog 99 ⟨.func, 1, 8, .nilFunc⟩ := ⟨by kernel_rfl, by kernel_rfl⟩
theorem tok100 : TI.ok Try.prog 100 ⟨.func, 1, 8, .nilFunc⟩ := ⟨by kernel_rfl, by kernel_rfl⟩
theorem tok101 : TI.ok Try.prog 101 ⟨.func, 1, 8, .nilFunc⟩ := ⟨by kernel_rfl, by kernel_rfl⟩
theorem tok102 : TI.ok Try.prog 102 ⟨.func, 1, 8, .nilFunc⟩ := ⟨by kernel_rfl, by kernel_rfl⟩
theorem tok103 : TI.ok Try.prog 103 ⟨.int .u64, 1, 8, .int .u64 0⟩ := ⟨by kernel_rfl, by kernel_rfl⟩
theorem tok104 : TI.ok Try.prog 104 ⟨.func, 1, 8, .nilFunc⟩ := ⟨by kernel_rfl, by kernel_rfl⟩
theorem tok105 : TI.ok Try.prog 105 ⟨.func, 1, 8, .nilFunc⟩ := ⟨by kernel_rfl, by kernel_rfl⟩
theorem tok106 : TI.ok Try.prog 106 ⟨.func, 1, 8, .nilFunc⟩ := ⟨by kernel_rfl, by kernel_rfl⟩
theorem tok107 : TI.ok Try.prog 107 ⟨.ptr 3, 1, 8, .pointer none⟩ := ⟨by kernel_rfl, by kernel_rfl⟩
theorem tok108 : TI.ok Try.prog 108 ⟨.func, 1, 8, .nilFunc⟩ := ⟨by kernel_rfl, by kernel_rfl⟩
theorem tok109 : TI.ok Try.prog 109 ⟨.ptr 103, 1, 8, .pointer none⟩ := ⟨by kernel_rfl, by kernel_rfl⟩
theorem tok110 : TI.ok Try.prog 110 ⟨.func, 1, 8, .nilFunc⟩ := ⟨by kernel_rfl, by kernel_rfl⟩
theorem tok111 : TI.ok Try.prog 111 ⟨.func, 1, 8, .nilFunc⟩ := ⟨by kernel_rfl, by kernel_rfl⟩
theorem tok112 : TI.ok Try.prog 112 ⟨.struct [(0, 17), (1, 17), (2, 17), (3, 9)], 4, 40, .agg #[.pointer none, .pointer none, .pointer none, .string ⟨#[]⟩]⟩ := ⟨by kernel_rfl, by kernel_rfl⟩
theorem tok113 : TI.ok Try.prog 113 ⟨.struct [(0, 17), (1, 17), (2, 17), (3, 9)], 4, 40, .agg #[.pointer none, .pointer none, .pointer none, .string ⟨#[]⟩]⟩ := ⟨by kernel_rfl, by kernel_rfl⟩
theorem tok114 : TI.ok Try.prog 114 ⟨.arr 0 16, 0, 0, .agg #[]⟩ := ⟨by kernel_rfl, by kernel_rfl⟩
theorem tok115 : TI.ok Try.prog 115 ⟨.struct [(0, 114)], 0, 0, .agg #[]⟩ := ⟨by kernel_rfl, by kernel_rfl⟩
theorem tok116 : TI.ok Try.prog 116 ⟨.struct [(0, 114)], 0, 0, .agg #[]⟩ := ⟨by kernel_rfl, by kernel_rfl⟩
theorem tok117 : TI.ok Try.prog 117 ⟨.func, 1, 8, .nilFunc⟩ := ⟨by kernel_rfl, by kernel_rfl⟩
theorem tok118 : TI.ok Try.prog 118 ⟨.int .u8, 1, 1, .int .u8 0⟩ := ⟨by kernel_rfl, by kernel_rfl⟩
theorem tok119 : TI.ok Try.prog 119 ⟨.int .u8, 1, 1, .int .u8 0⟩ := ⟨by kernel_rfl, by kernel_rfl⟩
theorem tok120 : TI.ok Try.prog 120 ⟨.func, 1, 8, .nilFunc⟩ := ⟨by kernel_rfl, by kernel_rfl⟩
theorem tok121 : TI.ok Try.prog 121 ⟨.ptr 5, 1, 8, .pointer none⟩ := ⟨by kernel_rfl, by kernel_rfl⟩
theorem tok122 : TI.ok Try.prog 122 ⟨.int .i32, 1, 4, .int .i32 0⟩ := ⟨by kernel_rfl, by kernel_rfl⟩
theorem tok123 : TI.ok Try.prog 123 ⟨.int .i32, 1, 4, .int .i32 0⟩ := ⟨by kernel_rfl, by kernel_rfl⟩
theorem tok124 : TI.ok Try.prog 124 ⟨.struct [(0, 12), (1, 12), (2, 96), (3, 118), (4, 5), (5, 5), (6, 119), (7, 120), (8, 121), (9, 122), (10, 123)], 11, 48, .agg #[.int .u64 0, .int .u64 0, .int .u32 0, .int .u8 0, .int .u8 0, .int .u8 0, .int .u8 0, .nilFunc, .pointer none, .int .i32 0, .int .i32 0]⟩ := ⟨by kernel_rfl, by kernel_rfl⟩
theorem tok125 : TI.ok Try.prog 125 ⟨.struct [(0, 12), (1, 12), (2, 96), (3, 118), (4, 5), (5, 5), (6, 119), (7, 120), (8, 121), (9, 122), (10, 123)], 11, 48, .agg #[.int .u64 0, .int .u64 0, .int .u32 0, .int .u8 0, .int .u8 0, .int .u8 0, .int .u8 0, .nilFunc, .pointer none, .int .i32 0, .int .i32 0]⟩ := ⟨by kernel_rfl, by kernel_rfl⟩
def cfg3 : Cfg := { tt := [(24, ⟨.struct [(0, 3), (1, 3), (2, 3), (3, 22)], 4, 48, .agg #[.int .i64 0, .int .i64 0, .int .i64 0, .slice none 0 0]⟩), (25, ⟨.slice 51, 1, 24, .slice none 0 0⟩), (26, ⟨.slice 3, 1, 24, .slice none 0 0⟩), (3, ⟨.int .i64, 1, 8, .int .i64 0⟩), (22, ⟨.slice 42, 1, 24, .slice none 0 0⟩), (51, ⟨.struct [(0, 3), (1, 3), (2, 3), (3, 3), (4, 3)], 5, 40, .agg #[.int .i64 0, .int .i64 0, .int .i64 0, .int .i64 0, .int .i64 0]⟩), (42, ⟨.struct [(0, 3), (1, 3), (2, 40)], 3, 40, .agg #[.int .i64 0, .int .i64 0, .slice none 0 0]⟩), (40, ⟨.slice 5, 1, 24, .slice none 0 0⟩), (5, ⟨.int .u8, 1, 1, .int .u8 0⟩)], live := [0, 1, 2, 3, 6, 7, 8, 9, 10, 12, 14, 24, 33, 34, 35, 36, 42, 51], dt := [(15, [(1, 2), (2, 2), (4, 2), (0, 7), (3, 3), (5, 3), (6, 3), (7, 2), (8, 2), (9, 2), (10, 2), (11, 2)])], nw := true }
theorem cfg3_ok : TTok Try.prog cfg3.tt := (TTok.cons tok24 (TTok.cons tok25 (TTok.cons tok26 (TTok.cons tok3 (TTok.cons tok22 (TTok.cons tok51 (TTok.cons tok42 (TTok.cons tok40 (TTok.cons tok5 TTok.nil)))))))))
def cfg4 : Cfg := { tt := [(24, ⟨.struct [(0, 3), (1, 3), (2, 3), (3, 22)], 4, 48, .agg #[.int .i64 0, .int .i64 0, .int .i64 0, .slice none 0 0]⟩), (25, ⟨.slice 51, 1, 24, .slice none 0 0⟩), (26, ⟨.slice 3, 1, 24, .slice none 0 0⟩), (3, ⟨.int .i64, 1, 8, .int .i64 0⟩), (35, ⟨.int .i64, 1, 8, .int .i64 0⟩), (22, ⟨.slice 42, 1, 24, .slice none 0 0⟩), (4, ⟨.bool, 1, 1, .bool false⟩), (42, ⟨.struct [(0, 3), (1, 3), (2, 40)], 3, 40, .agg #[.int .i64 0, .int .i64 0, .slice none 0 0]⟩), (40, ⟨.slice 5, 1, 24, .slice none 0 0⟩), (51, ⟨.struct [(0, 3), (1, 3), (2, 3), (3, 3), (4, 3)], 5, 40, .agg #[.int .i64 0, .int .i64 0, .int .i64 0, .int .i64 0, .int .i64 0]⟩), (5, ⟨.int .u8, 1, 1, .int .u8 0⟩)], live := [0, 1, 2, 3, 4, 8, 9, 10, 11, 12, 13, 14, 15, 16, 17, 18, 38, 49, 95, 96, 97, 98, 99, 166, 169, 172, 173, 174, 175, 209], dt := [(14, [(0, 0), (1, 0), (2, 0), (3, 0), (4, 0), (5, 0), (6, 0), (7, 0), (8, 0), (9, 0), (10, 0), (11, 0), (12, 0), (13, 0), (14, 0), (15, 0), (16, 0), (17, 0), (18, 0), (19, 0), (20, 0), (21, 1), (22, 0), (23, 0), (24, 0), (25, 0), (26, 0), (27, 0), (28, 1), (29, 0), (30, 0), (31, 0), (32, 0), (33, 0), (34, 0), (35, 0), (36, 0), (37, 0), (38, 0), (39, 0), (40, 1), (41, 0), (42, 0), (43, 0), (44, 0), (45, 0), (46, 0), (47, 0), (48, 0), (49, 0), (50, 0), (51, 0), (52, 0), (53, 0), (54, 0), (55, 0), (56, 0), (57, 0), (58, 0), (59, 0), (60, 1), (61, 0), (62, 0), (63, 0)]), (22, [(0, 0), (1, 0), (2, 0), (3, 0), (4, 0), (5, 0), (6, 1), (7, 0), (8, 0), (9, 0), (10, 0), (11, 0), (12, 0), (13, 0), (14, 0), (15, 1), (16, 0), (17, 0), (18, 0), (19, 0), (20, 0), (21, 0), (22, 0), (23, 0), (24, 0), (25, 0), (26, 0), (27, 0), (28, 1), (29, 0), (30, 0)])], nw := true }
theorem cfg4_ok : TTok Try.prog cfg4.tt := (TTok.cons tok24 (TTok.cons tok25 (TTok.cons tok26 (TTok.cons tok3 (TTok.cons tok35 (TTok.cons tok22 (TTok.cons tok4 (TTok.cons tok42 (TTok.cons tok40 (TTok.cons tok51 (TTok.cons tok5 TTok.nil)))))))))))
def cfg5 : Cfg := { tt := [(24, ⟨.struct [(0, 3), (1, 3), (2, 3), (3, 22)], 4, 48, .agg #[.int .i64 0, .int .i64 0, .int .i64 0, .slice none 0 0]⟩), (25, ⟨.slice 51, 1, 24, .slice none 0 0⟩), (35, ⟨.int .i64, 1, 8, .int .i64 0⟩), (22, ⟨.slice 42, 1, 24, .slice none 0 0⟩), (3, ⟨.int .i64, 1, 8, .int .i64 0⟩), (26, ⟨.slice 3, 1, 24, .slice none 0 0⟩), (51, ⟨.struct [(0, 3), (1, 3), (2, 3), (3, 3), (4, 3)], 5, 40, .agg #[.int .i64 0, .int .i64 0, .int .i64 0, .int .i64 0, .int .i64 0]⟩), (42, ⟨.struct [(0, 3), (1, 3), (2, 40)], 3, 40, .agg #[.int .i64 0, .int .i64 0, .slice none 0 0]⟩), (40, ⟨.slice 5, 1, 24, .slice none 0 0⟩), (5, ⟨.int .u8, 1, 1, .int .u8 0⟩)], live := [0, 1, 2, 4, 5, 6, 7, 8, 9, 10, 11, 12, 14, 29, 59, 60, 61, 62, 63], dt := [], nw := true }
theorem cfg5_ok : TTok Try.prog cfg5.tt := (TTok.cons tok24 (TTok.cons tok25 (TTok.cons tok35 (TTok.cons tok22 (TTok.cons tok3 (TTok.cons tok26 (TTok.cons tok51 (TTok.cons tok42 (TTok.cons tok40 (TTok.cons tok5 TTok.nil))))))))))
def cfg6 : Cfg := { tt := [(24, ⟨.struct [(0, 3), (1, 3), (2, 3), (3, 22)], 4, 48, .agg #[.int .i64 0, .int .i64 0, .int .i64 0, .slice none 0 0]⟩), (25, ⟨.slice 51, 1, 24, .slice none 0 0⟩), (26, ⟨.slice 3, 1, 24, .slice none 0 0⟩), (3, ⟨.int .i64, 1, 8, .int .i64 0⟩), (35, ⟨.int .i64, 1, 8, .int .i64 0⟩), (22, ⟨.slice 42, 1, 24, .slice none 0 0⟩), (42, ⟨.struct [(0, 3), (1, 3), (2, 40)], 3, 40, .agg #[.int .i64 0, .int .i64 0, .slice none 0 0]⟩), (4, ⟨.bool, 1, 1, .bool false⟩), (40, ⟨.slice 5, 1, 24, .slice none 0 0⟩), (51, ⟨.struct [(0, 3), (1, 3), (2, 3), (3, 3), (4, 3)], 5, 40, .agg #[.int .i64 0, .int .i64 0, .int .i64 0, .int .i64 0, .int .i64 0]⟩), (5, ⟨.int .u8, 1, 1, .int .u8 0⟩)], live := [0, 1, 2, 4, 5, 6, 7, 8, 9, 10, 11, 12, 14, 28, 34, 35, 36, 37, 53, 56, 57, 58, 73, 81, 82, 83, 84], dt := [(8, [(0, 0), (1, 0), (3, 0), (4, 0), (5, 0), (2, 1), (6, 0), (7, 0), (8, 0), (9, 1), (10, 0), (11, 0), (12, 1)]), (14, [(0, 0), (1, 0), (2, 0), (3, 0), (4, 0), (5, 0), (6, 0), (7, 0), (8, 0), (9, 0), (10, 0), (11, 0), (12, 0), (13, 0)])], nw := true }
theorem cfg6_ok : TTok Try.prog cfg6.tt := (TTok.cons tok24 (TTok.cons tok25 (TTok.cons tok26 (TTok.cons tok3 (TTok.cons tok35 (TTok.cons tok22 (TTok.cons tok42 (TTok.cons tok4 (TTok.cons tok40 (TTok.cons tok51 (TTok.cons tok5 TTok.nil)))))))))))
def cfg8 : Cfg := { tt := [(40, ⟨.slice 5, 1, 24, .slice none 0 0⟩), (42, ⟨.struct [(0, 3), (1, 3), (2, 40)], 3, 40, .agg #[.int .i64 0, .int .i64 0, .slice none 0 0]⟩), (22, ⟨.slice 42, 1, 24, .slice none 0 0⟩), (24, ⟨.struct [(0, 3), (1, 3), (2, 3), (3, 22)], 4, 48, .agg #[.int .i64 0, .int .i64 0, .int .i64 0, .slice none 0 0]⟩), (51, ⟨.struct [(0, 3), (1, 3), (2, 3), (3, 3), (4, 3)], 5, 40, .agg #[.int .i64 0, .int .i64 0, .int .i64 0, .int .i64 0, .int .i64 0]⟩), (25, ⟨.slice 51, 1, 24, .slice none 0 0⟩), (26, ⟨.slice 3, 1, 24, .slice none 0 0⟩), (3, ⟨.int .i64, 1, 8, .int .i64 0⟩), (5, ⟨.int .u8, 1, 1, .int .u8 0⟩)], live := [0, 1, 2, 3, 5], dt := [], nw := true }
theorem cfg8_ok : TTok Try.prog cfg8.tt := (TTok.cons tok40 (TTok.cons tok42 (TTok.cons tok22 (TTok.cons tok24 (TTok.cons tok51 (TTok.cons tok25 (TTok.cons tok26 (TTok.cons tok3 (TTok.cons tok5 TTok.nil)))))))))
def cfg9 : Cfg := { tt := [(24, ⟨.struct [(0, 3), (1, 3), (2, 3), (3, 22)], 4, 48, .agg #[.int .i64 0, .int .i64 0, .int .i64 0, .slice none 0 0]⟩), (3, ⟨.int .i64, 1, 8, .int .i64 0⟩), (22, ⟨.slice 42, 1, 24, .slice none 0 0⟩), (25, ⟨.slice 51, 1, 24, .slice none 0 0⟩), (42, ⟨.struct [(0, 3), (1, 3), (2, 40)], 3, 40, .agg #[.int .i64 0, .int .i64 0, .slice none 0 0]⟩), (51, ⟨.struct [(0, 3), (1, 3), (2, 3), (3, 3), (4, 3)], 5, 40, .agg #[.int .i64 0, .int .i64 0, .int .i64 0, .int .i64 0, .int .i64 0]⟩), (40, ⟨.slice 5, 1, 24, .slice none 0 0⟩), (5, ⟨.int .u8, 1, 1, .int .u8 0⟩)], live := [0, 1, 2, 4], dt := [], nw := true }
theorem cfg9_ok : TTok Try.prog cfg9.tt := (TTok.cons tok24 (TTok.cons tok3 (TTok.cons tok22 (TTok.cons tok25 (TTok.cons tok42 (TTok.cons tok51 (TTok.cons tok40 (TTok.cons tok5 TTok.nil))))))))
def cfg10 : Cfg := { tt := [(24, ⟨.struct [(0, 3), (1, 3), (2, 3), (3, 22)], 4, 48, .agg #[.int .i64 0, .int .i64 0, .int .i64 0, .slice none 0 0]⟩), (25, ⟨.slice 51, 1, 24, .slice none 0 0⟩), (26, ⟨.slice 3, 1, 24, .slice none 0 0⟩), (3, ⟨.int .i64, 1, 8, .int .i64 0⟩), (22, ⟨.slice 42, 1, 24, .slice none 0 0⟩), (51, ⟨.struct [(0, 3), (1, 3), (2, 3), (3, 3), (4, 3)], 5, 40, .agg #[.int .i64 0, .int .i64 0, .int .i64 0, .int .i64 0, .int .i64 0]⟩), (42, ⟨.struct [(0, 3), (1, 3), (2, 40)], 3, 40, .agg #[.int .i64 0, .int .i64 0, .slice none 0 0]⟩), (40, ⟨.slice 5, 1, 24, .slice none 0 0⟩), (5, ⟨.int .u8, 1, 1, .int .u8 0⟩)], live := [0, 1, 2, 3, 4, 8, 9], dt := [], nw := true }
theorem cfg10_ok : TTok Try.prog cfg10.tt := (TTok.cons tok24 (TTok.cons tok25 (TTok.cons tok26 (TTok.cons tok3 (TTok.cons tok22 (TTok.cons tok51 (TTok.cons tok42 (TTok.cons tok40 (TTok.cons tok5 TTok.nil)))))))))
def cfg11 : Cfg := { tt := [(26, ⟨.slice 3, 1, 24, .slice none 0 0⟩), (3, ⟨.int .i64, 1, 8, .int .i64 0⟩)], live := [0, 1, 4, 6, 7, 8, 9, 10, 15], dt := [], nw := true }
theorem cfg11_ok : TTok Try.prog cfg11.tt := (TTok.cons tok26 (TTok.cons tok3 TTok.nil))
def cfg12 : Cfg := { tt := [(26, ⟨.slice 3, 1, 24, .slice none 0 0⟩), (3, ⟨.int .i64, 1, 8, .int .i64 0⟩)], live := [0, 1, 4, 5, 10, 12, 13, 14, 24], dt := [(6, [(0, 0), (1, 0), (2, 0), (3, 0), (4, 0), (5, 0), (6, 0), (7, 0), (8, 0)])], nw := true }
theorem cfg12_ok : TTok Try.prog cfg12.tt := (TTok.cons tok26 (TTok.cons tok3 TTok.nil))
def cfg13 : Cfg := { tt := [(24, ⟨.struct [(0, 3), (1, 3), (2, 3), (3, 22)], 4, 48, .agg #[.int .i64 0, .int .i64 0, .int .i64 0, .slice none 0 0]⟩), (25, ⟨.slice 51, 1, 24, .slice none 0 0⟩), (26, ⟨.slice 3, 1, 24, .slice none 0 0⟩), (3, ⟨.int .i64, 1, 8, .int .i64 0⟩), (22, ⟨.slice 42, 1, 24, .slice none 0 0⟩), (51, ⟨.struct [(0, 3), (1, 3), (2, 3), (3, 3), (4, 3)], 5, 40, .agg #[.int .i64 0, .int .i64 0, .int .i64 0, .int .i64 0, .int .i64 0]⟩), (42, ⟨.struct [(0, 3), (1, 3), (2, 40)], 3, 40, .agg #[.int .i64 0, .int .i64 0, .slice none 0 0]⟩), (40, ⟨.slice 5, 1, 24, .slice none 0 0⟩), (5, ⟨.int .u8, 1, 1, .int .u8 0⟩)], live := [0, 1, 2, 3, 6, 7, 8, 15], dt := [], nw := true }
theorem cfg13_ok : TTok Try.prog cfg13.tt := (TTok.cons tok24 (TTok.cons tok25 (TTok.cons tok26 (TTok.cons tok3 (TTok.cons tok22 (TTok.cons tok51 (TTok.cons tok42 (TTok.cons tok40 (TTok.cons tok5 TTok.nil)))))))))
def cfg14 : Cfg := { tt := [(24, ⟨.struct [(0, 3), (1, 3), (2, 3), (3, 22)], 4, 48, .agg #[.int .i64 0, .int .i64 0, .int .i64 0, .slice none 0 0]⟩), (22, ⟨.slice 42, 1, 24, .slice none 0 0⟩), (3, ⟨.int .i64, 1, 8, .int .i64 0⟩), (42, ⟨.struct [(0, 3), (1, 3), (2, 40)], 3, 40, .agg #[.int .i64 0, .int .i64 0, .slice none 0 0]⟩), (35, ⟨.int .i64, 1, 8, .int .i64 0⟩), (40, ⟨.slice 5, 1, 24, .slice none 0 0⟩), (5, ⟨.int .u8, 1, 1, .int .u8 0⟩)], live := [0, 1, 2, 3, 5, 42, 44, 45, 46, 47, 54, 69], dt := [(10, [(0, 0), (1, 0), (3, 0), (4, 0), (2, 1), (5, 0), (6, 0), (7, 0), (8, 0), (10, 0), (11, 0), (9, 1), (12, 0), (13, 0)])], nw := true }
theorem cfg14_ok : TTok Try.prog cfg14.tt := (TTok.cons tok24 (TTok.cons tok22 (TTok.cons tok3 (TTok.cons tok42 (TTok.cons tok35 (TTok.cons tok40 (TTok.cons tok5 TTok.nil)))))))
def cfg15 : Cfg := { tt := [(25, ⟨.slice 51, 1, 24, .slice none 0 0⟩), (3, ⟨.int .i64, 1, 8, .int .i64 0⟩), (51, ⟨.struct [(0, 3), (1, 3), (2, 3), (3, 3), (4, 3)], 5, 40, .agg #[.int .i64 0, .int .i64 0, .int .i64 0, .int .i64 0, .int .i64 0]⟩)], live := [0, 2, 3, 5, 6, 7, 8, 9, 20], dt := [], nw := true }
theorem cfg15_ok : TTok Try.prog cfg15.tt := (TTok.cons tok25 (TTok.cons tok3 (TTok.cons tok51 TTok.nil)))
def cfg16 : Cfg := { tt := [(3, ⟨.int .i64, 1, 8, .int .i64 0⟩), (25, ⟨.slice 51, 1, 24, .slice none 0 0⟩), (35, ⟨.int .i64, 1, 8, .int .i64 0⟩), (51, ⟨.struct [(0, 3), (1, 3), (2, 3), (3, 3), (4, 3)], 5, 40, .agg #[.int .i64 0, .int .i64 0, .int .i64 0, .int .i64 0, .int .i64 0]⟩)], live := [0, 1, 4, 5, 16], dt := [], nw := true }
theorem cfg16_ok : TTok Try.prog cfg16.tt := (TTok.cons tok3 (TTok.cons tok25 (TTok.cons tok35 (TTok.cons tok51 TTok.nil))))
def cfg17 : Cfg := { tt := [(24, ⟨.struct [(0, 3), (1, 3), (2, 3), (3, 22)], 4, 48, .agg #[.int .i64 0, .int .i64 0, .int .i64 0, .slice none 0 0]⟩), (35, ⟨.int .i64, 1, 8, .int .i64 0⟩), (25, ⟨.slice 51, 1, 24, .slice none 0 0⟩), (22, ⟨.slice 42, 1, 24, .slice none 0 0⟩), (3, ⟨.int .i64, 1, 8, .int .i64 0⟩), (26, ⟨.slice 3, 1, 24, .slice none 0 0⟩), (42, ⟨.struct [(0, 3), (1, 3), (2, 40)], 3, 40, .agg #[.int .i64 0, .int .i64 0, .slice none 0 0]⟩), (51, ⟨.struct [(0, 3), (1, 3), (2, 3), (3, 3), (4, 3)], 5, 40, .agg #[.int .i64 0, .int .i64 0, .int .i64 0, .int .i64 0, .int .i64 0]⟩), (40, ⟨.slice 5, 1, 24, .slice none 0 0⟩), (5, ⟨.int .u8, 1, 1, .int .u8 0⟩)], live := [0, 1, 2, 4, 5, 6, 7, 8, 16, 21, 22, 23, 24], dt := [], nw := true }
theorem cfg17_ok : TTok Try.prog cfg17.tt := (TTok.cons tok24 (TTok.cons tok35 (TTok.cons tok25 (TTok.cons tok22 (TTok.cons tok3 (TTok.cons tok26 (TTok.cons tok42 (TTok.cons tok51 (TTok.cons tok40 (TTok.cons tok5 TTok.nil))))))))))
def cfg18 : Cfg := { tt := [(24, ⟨.struct [(0, 3), (1, 3), (2, 3), (3, 22)], 4, 48, .agg #[.int .i64 0, .int .i64 0, .int .i64 0, .slice none 0 0]⟩), (35, ⟨.int .i64, 1, 8, .int .i64 0⟩), (22, ⟨.slice 42, 1, 24, .slice none 0 0⟩), (3, ⟨.int .i64, 1, 8, .int .i64 0⟩), (42, ⟨.struct [(0, 3), (1, 3), (2, 40)], 3, 40, .agg #[.int .i64 0, .int .i64 0, .slice none 0 0]⟩), (26, ⟨.slice 3, 1, 24, .slice none 0 0⟩), (40, ⟨.slice 5, 1, 24, .slice none 0 0⟩), (5, ⟨.int .u8, 1, 1, .int .u8 0⟩)], live := [0, 1, 2, 4, 5, 6, 7, 10, 12, 13, 14, 15, 27], dt := [], nw := true }
theorem cfg18_ok : TTok Try.prog cfg18.tt := (TTok.cons tok24 (TTok.cons tok35 (TTok.cons tok22 (TTok.cons tok3 (TTok.cons tok42 (TTok.cons tok26 (TTok.cons tok40 (TTok.cons tok5 TTok.nil))))))))
def cfg21 : Cfg := { tt := [(24, ⟨.struct [(0, 3), (1, 3), (2, 3), (3, 22)], 4, 48, .agg #[.int .i64 0, .int .i64 0, .int .i64 0, .slice none 0 0]⟩), (22, ⟨.slice 42, 1, 24, .slice none 0 0⟩), (3, ⟨.int .i64, 1, 8, .int .i64 0⟩), (42, ⟨.struct [(0, 3), (1, 3), (2, 40)], 3, 40, .agg #[.int .i64 0, .int .i64 0, .slice none 0 0]⟩), (40, ⟨.slice 5, 1, 24, .slice none 0 0⟩), (5, ⟨.int .u8, 1, 1, .int .u8 0⟩)], live := [0, 1, 2, 3, 5, 7, 8, 9, 10], dt := [], nw := true }
theorem cfg21_ok : TTok Try.prog cfg21.tt := (TTok.cons tok24 (TTok.cons tok22 (TTok.cons tok3 (TTok.cons tok42 (TTok.cons tok40 (TTok.cons tok5 TTok.nil))))))
def cfg22 : Cfg := { tt := [(24, ⟨.struct [(0, 3), (1, 3), (2, 3), (3, 22)], 4, 48, .agg #[.int .i64 0, .int .i64 0, .int .i64 0, .slice none 0 0]⟩), (35, ⟨.int .i64, 1, 8, .int .i64 0⟩), (25, ⟨.slice 51, 1, 24, .slice none 0 0⟩), (22, ⟨.slice 42, 1, 24, .slice none 0 0⟩), (3, ⟨.int .i64, 1, 8, .int .i64 0⟩), (26, ⟨.slice 3, 1, 24, .slice none 0 0⟩), (42, ⟨.struct [(0, 3), (1, 3), (2, 40)], 3, 40, .agg #[.int .i64 0, .int .i64 0, .slice none 0 0]⟩), (66, ⟨.func, 1, 8, .nilFunc⟩), (51, ⟨.struct [(0, 3), (1, 3), (2, 3), (3, 3), (4, 3)], 5, 40, .agg #[.int .i64 0, .int .i64 0, .int .i64 0, .int .i64 0, .int .i64 0]⟩), (40, ⟨.slice 5, 1, 24, .slice none 0 0⟩), (5, ⟨.int .u8, 1, 1, .int .u8 0⟩)], live := [0, 1, 2, 3, 6, 7, 8, 9, 10, 18, 25, 26, 27, 28, 49], dt := [(8, [(0, 0), (1, 0), (2, 0), (3, 0), (4, 0), (5, 0), (6, 0), (7, 0), (8, 0), (9, 1), (10, 0), (11, 0), (12, 0), (13, 0), (14, 0), (15, 1), (16, 0), (17, 0)])], nw := true }
theorem cfg22_ok : TTok Try.prog cfg22.tt := (TTok.cons tok24 (TTok.cons tok35 (TTok.cons tok25 (TTok.cons tok22 (TTok.cons tok3 (TTok.cons tok26 (TTok.cons tok42 (TTok.cons tok66 (TTok.cons tok51 (TTok.cons tok40 (TTok.cons tok5 TTok.nil)))))))))))
def cfg23 : Cfg := { tt := [(42, ⟨.struct [(0, 3), (1, 3), (2, 40)], 3, 40, .agg #[.int .i64 0, .int .i64 0, .slice none 0 0]⟩), (40, ⟨.slice 5, 1, 24, .slice none 0 0⟩), (3, ⟨.int .i64, 1, 8, .int .i64 0⟩), (5, ⟨.int .u8, 1, 1, .int .u8 0⟩)], live := [0, 1, 2, 4, 5, 6, 25, 27, 28, 32, 42, 47, 50], dt := [], nw := true }
theorem cfg23_ok : TTok Try.prog cfg23.tt := (TTok.cons tok42 (TTok.cons tok40 (TTok.cons tok3 (TTok.cons tok5 TTok.nil))))
def cfg24 : Cfg := { tt := [(22, ⟨.slice 42, 1, 24, .slice none 0 0⟩), (3, ⟨.int .i64, 1, 8, .int .i64 0⟩), (42, ⟨.struct [(0, 3), (1, 3), (2, 40)], 3, 40, .agg #[.int .i64 0, .int .i64 0, .slice none 0 0]⟩), (40, ⟨.slice 5, 1, 24, .slice none 0 0⟩), (5, ⟨.int .u8, 1, 1, .int .u8 0⟩)], live := [0, 2, 3, 5, 6, 7, 8, 9, 13], dt := [], nw := true }
theorem cfg24_ok : TTok Try.prog cfg24.tt := (TTok.cons tok22 (TTok.cons tok3 (TTok.cons tok42 (TTok.cons tok40 (TTok.cons tok5 TTok.nil)))))
def cfg25 : Cfg := { tt := [(22, ⟨.slice 42, 1, 24, .slice none 0 0⟩), (3, ⟨.int .i64, 1, 8, .int .i64 0⟩), (42, ⟨.struct [(0, 3), (1, 3), (2, 40)], 3, 40, .agg #[.int .i64 0, .int .i64 0, .slice none 0 0]⟩), (40, ⟨.slice 5, 1, 24, .slice none 0 0⟩), (5, ⟨.int .u8, 1, 1, .int .u8 0⟩)], live := [0, 2, 3, 5, 6, 7, 8, 9, 13], dt := [], nw := true }
theorem cfg25_ok : TTok Try.prog cfg25.tt := (TTok.cons tok22 (TTok.cons tok3 (TTok.cons tok42 (TTok.cons tok40 (TTok.cons tok5 TTok.nil)))))
def cfg26 : Cfg := { tt := [(51, ⟨.struct [(0, 3), (1, 3), (2, 3), (3, 3), (4, 3)], 5, 40, .agg #[.int .i64 0, .int .i64 0, .int .i64 0, .int .i64 0, .int .i64 0]⟩), (3, ⟨.int .i64, 1, 8, .int .i64 0⟩)], live := [0, 1, 2, 28, 31], dt := [], nw := true }
theorem cfg26_ok : TTok Try.prog cfg26.tt := (TTok.cons tok51 (TTok.cons tok3 TTok.nil))
def cfg27 : Cfg := { tt := [(25, ⟨.slice 51, 1, 24, .slice none 0 0⟩), (3, ⟨.int .i64, 1, 8, .int .i64 0⟩), (51, ⟨.struct [(0, 3), (1, 3), (2, 3), (3, 3), (4, 3)], 5, 40, .agg #[.int .i64 0, .int .i64 0, .int .i64 0, .int .i64 0, .int .i64 0]⟩)], live := [0, 2, 3, 4, 5, 6, 7, 8, 29], dt := [(4, [(0, 0), (1, 1), (2, 0), (3, 0), (4, 0), (5, 0), (6, 0), (7, 0), (8, 0), (9, 0), (10, 0), (11, 0), (12, 0), (13, 1), (14, 1), (15, 0), (16, 0), (17, 0)])], nw := true }
theorem cfg27_ok : TTok Try.prog cfg27.tt := (TTok.cons tok25 (TTok.cons tok3 (TTok.cons tok51 TTok.nil)))
def cfg28 : Cfg := { tt := [(26, ⟨.slice 3, 1, 24, .slice none 0 0⟩), (25, ⟨.slice 51, 1, 24, .slice none 0 0⟩), (3, ⟨.int .i64, 1, 8, .int .i64 0⟩), (51, ⟨.struct [(0, 3), (1, 3), (2, 3), (3, 3), (4, 3)], 5, 40, .agg #[.int .i64 0, .int .i64 0, .int .i64 0, .int .i64 0, .int .i64 0]⟩)], live := [0, 1, 4, 5, 7, 10, 11, 12, 13, 24], dt := [(6, [(0, 0), (1, 0), (2, 0), (3, 0), (4, 0), (5, 0), (6, 0), (7, 0), (8, 0), (9, 3)])], nw := true }
theorem cfg28_ok : TTok Try.prog cfg28.tt := (TTok.cons tok26 (TTok.cons tok25 (TTok.cons tok3 (TTok.cons tok51 TTok.nil))))
def cfg29 : Cfg := { tt := [(24, ⟨.struct [(0, 3), (1, 3), (2, 3), (3, 22)], 4, 48, .agg #[.int .i64 0, .int .i64 0, .int .i64 0, .slice none 0 0]⟩), (22, ⟨.slice 42, 1, 24, .slice none 0 0⟩), (3, ⟨.int .i64, 1, 8, .int .i64 0⟩), (72, ⟨.func, 1, 8, .nilFunc⟩), (42, ⟨.struct [(0, 3), (1, 3), (2, 40)], 3, 40, .agg #[.int .i64 0, .int .i64 0, .slice none 0 0]⟩), (40, ⟨.slice 5, 1, 24, .slice none 0 0⟩), (5, ⟨.int .u8, 1, 1, .int .u8 0⟩)], live := [0, 1, 2, 3, 4, 59, 63], dt := [(3, [(0, 0), (1, 0), (2, 0), (3, 0), (4, 0), (6, 0), (7, 0), (5, 1), (8, 0), (9, 0), (10, 0), (11, 0), (12, 0), (14, 0), (15, 0), (13, 1), (16, 0), (17, 0)])], nw := true }
theorem cfg29_ok : TTok Try.prog cfg29.tt := (TTok.cons tok24 (TTok.cons tok22 (TTok.cons tok3 (TTok.cons tok72 (TTok.cons tok42 (TTok.cons tok40 (TTok.cons tok5 TTok.nil)))))))
def cfg30 : Cfg := { tt := [(42, ⟨.struct [(0, 3), (1, 3), (2, 40)], 3, 40, .agg #[.int .i64 0, .int .i64 0, .slice none 0 0]⟩), (40, ⟨.slice 5, 1, 24, .slice none 0 0⟩), (3, ⟨.int .i64, 1, 8, .int .i64 0⟩), (5, ⟨.int .u8, 1, 1, .int .u8 0⟩)], live := [0, 1, 2], dt := [], nw := true }
theorem cfg30_ok : TTok Try.prog cfg30.tt := (TTok.cons tok42 (TTok.cons tok40 (TTok.cons tok3 (TTok.cons tok5 TTok.nil))))
def cfg31 : Cfg := { tt := [(26, ⟨.slice 3, 1, 24, .slice none 0 0⟩), (3, ⟨.int .i64, 1, 8, .int .i64 0⟩)], live := [0, 1, 4], dt := [], nw := true }
theorem cfg31_ok : TTok Try.prog cfg31.tt := (TTok.cons tok26 (TTok.cons tok3 TTok.nil))
def cfg38 : Cfg := { tt := [(3, ⟨.int .i64, 1, 8, .int .i64 0⟩)], live := [0, 1, 4, 5, 6, 11, 12, 13, 16, 19], dt := [], nw := true }
theorem cfg38_ok : TTok Try.prog cfg38.tt := (TTok.cons tok3 TTok.nil)
def cfg39 : Cfg := { tt := [(3, ⟨.int .i64, 1, 8, .int .i64 0⟩)], live := [0, 1, 4], dt := [], nw := true }
theorem cfg39_ok : TTok Try.prog cfg39.tt := (TTok.cons tok3 TTok.nil)
def cfg41 : Cfg := { tt := [(26, ⟨.slice 3, 1, 24, .slice none 0 0⟩), (3, ⟨.int .i64, 1, 8, .int .i64 0⟩), (66, ⟨.func, 1, 8, .nilFunc⟩)], live := [0, 1], dt := [], nw := true }
theorem cfg41_ok : TTok Try.prog cfg41.tt := (TTok.cons tok26 (TTok.cons tok3 (TTok.cons tok66 TTok.nil)))
def cfg42 : Cfg := { tt := [(26, ⟨.slice 3, 1, 24, .slice none 0 0⟩), (3, ⟨.int .i64, 1, 8, .int .i64 0⟩)], live := [0, 1, 2, 5], dt := [(1, [(0, 0), (1, 0), (2, 0), (3, 0), (4, 0), (5, 0), (6, 0), (7, 0), (8, 1), (9, 0)])], nw := true }
theorem cfg42_ok : TTok Try.prog cfg42.tt := (TTok.cons tok26 (TTok.cons tok3 TTok.nil))
def cfg43 : Cfg := { tt := [(42, ⟨.struct [(0, 3), (1, 3), (2, 40)], 3, 40, .agg #[.int .i64 0, .int .i64 0, .slice none 0 0]⟩), (3, ⟨.int .i64, 1, 8, .int .i64 0⟩), (40, ⟨.slice 5, 1, 24, .slice none 0 0⟩), (5, ⟨.int .u8, 1, 1, .int .u8 0⟩)], live := [0, 1, 2], dt := [], nw := true }
theorem cfg43_ok : TTok Try.prog cfg43.tt := (TTok.cons tok42 (TTok.cons tok3 (TTok.cons tok40 (TTok.cons tok5 TTok.nil))))
def cfg44 : Cfg := { tt := [(42, ⟨.struct [(0, 3), (1, 3), (2, 40)], 3, 40, .agg #[.int .i64 0, .int .i64 0, .slice none 0 0]⟩), (3, ⟨.int .i64, 1, 8, .int .i64 0⟩), (40, ⟨.slice 5, 1, 24, .slice none 0 0⟩), (5, ⟨.int .u8, 1, 1, .int .u8 0⟩)], live := [0, 1, 2], dt := [], nw := true }
theorem cfg44_ok : TTok Try.prog cfg44.tt := (TTok.cons tok42 (TTok.cons tok3 (TTok.cons tok40 (TTok.cons tok5 TTok.nil))))
def cfg45 : Cfg := { tt := [(51, ⟨.struct [(0, 3), (1, 3), (2, 3), (3, 3), (4, 3)], 5, 40, .agg #[.int .i64 0, .int .i64 0, .int .i64 0, .int .i64 0, .int .i64 0]⟩), (3, ⟨.int .i64, 1, 8, .int .i64 0⟩)], live := [0, 1, 2, 3, 30], dt := [], nw := true }
theorem cfg45_ok : TTok Try.prog cfg45.tt := (TTok.cons tok51 (TTok.cons tok3 TTok.nil))
def cfg46 : Cfg := { tt := [(51, ⟨.struct [(0, 3), (1, 3), (2, 3), (3, 3), (4, 3)], 5, 40, .agg #[.int .i64 0, .int .i64 0, .int .i64 0, .int .i64 0, .int .i64 0]⟩), (3, ⟨.int .i64, 1, 8, .int .i64 0⟩)], live := [0, 1, 2], dt := [], nw := true }
theorem cfg46_ok : TTok Try.prog cfg46.tt := (TTok.cons tok51 (TTok.cons tok3 TTok.nil))
def cfg47 : Cfg := { tt := [(26, ⟨.slice 3, 1, 24, .slice none 0 0⟩), (22, ⟨.slice 42, 1, 24, .slice none 0 0⟩), (3, ⟨.int .i64, 1, 8, .int .i64 0⟩), (42, ⟨.struct [(0, 3), (1, 3), (2, 40)], 3, 40, .agg #[.int .i64 0, .int .i64 0, .slice none 0 0]⟩), (40, ⟨.slice 5, 1, 24, .slice none 0 0⟩), (5, ⟨.int .u8, 1, 1, .int .u8 0⟩)], live := [0, 2], dt := [], nw := true }
theorem cfg47_ok : TTok Try.prog cfg47.tt := (TTok.cons tok26 (TTok.cons tok22 (TTok.cons tok3 (TTok.cons tok42 (TTok.cons tok40 (TTok.cons tok5 TTok.nil))))))
def cfg48 : Cfg := { tt := [(26, ⟨.slice 3, 1, 24, .slice none 0 0⟩), (22, ⟨.slice 42, 1, 24, .slice none 0 0⟩), (3, ⟨.int .i64, 1, 8, .int .i64 0⟩), (42, ⟨.struct [(0, 3), (1, 3), (2, 40)], 3, 40, .agg #[.int .i64 0, .int .i64 0, .slice none 0 0]⟩), (40, ⟨.slice 5, 1, 24, .slice none 0 0⟩), (5, ⟨.int .u8, 1, 1, .int .u8 0⟩)], live := [0, 2], dt := [], nw := true }
theorem cfg48_ok : TTok Try.prog cfg48.tt := (TTok.cons tok26 (TTok.cons tok22 (TTok.cons tok3 (TTok.cons tok42 (TTok.cons tok40 (TTok.cons tok5 TTok.nil))))))
def cfg49 : Cfg := { tt := [(22, ⟨.slice 42, 1, 24, .slice none 0 0⟩), (72, ⟨.func, 1, 8, .nilFunc⟩), (3, ⟨.int .i64, 1, 8, .int .i64 0⟩), (42, ⟨.struct [(0, 3), (1, 3), (2, 40)], 3, 40, .agg #[.int .i64 0, .int .i64 0, .slice none 0 0]⟩), (40, ⟨.slice 5, 1, 24, .slice none 0 0⟩), (5, ⟨.int .u8, 1, 1, .int .u8 0⟩)], live := [0, 1, 4], dt := [], nw := true }
theorem cfg49_ok : TTok Try.prog cfg49.tt := (TTok.cons tok22 (TTok.cons tok72 (TTok.cons tok3 (TTok.cons tok42 (TTok.cons tok40 (TTok.cons tok5 TTok.nil))))))
def cfg50 : Cfg := { tt := [(42, ⟨.struct [(0, 3), (1, 3), (2, 40)], 3, 40, .agg #[.int .i64 0, .int .i64 0, .slice none 0 0]⟩), (24, ⟨.struct [(0, 3), (1, 3), (2, 3), (3, 22)], 4, 48, .agg #[.int .i64 0, .int .i64 0, .int .i64 0, .slice none 0 0]⟩), (3, ⟨.int .i64, 1, 8, .int .i64 0⟩), (35, ⟨.int .i64, 1, 8, .int .i64 0⟩), (40, ⟨.slice 5, 1, 24, .slice none 0 0⟩), (22, ⟨.slice 42, 1, 24, .slice none 0 0⟩), (5, ⟨.int .u8, 1, 1, .int .u8 0⟩)], live := [0, 1, 2, 3], dt := [], nw := true }
theorem cfg50_ok : TTok Try.prog cfg50.tt := (TTok.cons tok42 (TTok.cons tok24 (TTok.cons tok3 (TTok.cons tok35 (TTok.cons tok40 (TTok.cons tok22 (TTok.cons tok5 TTok.nil)))))))
def cfg51 : Cfg := { tt := [(42, ⟨.struct [(0, 3), (1, 3), (2, 40)], 3, 40, .agg #[.int .i64 0, .int .i64 0, .slice none 0 0]⟩), (3, ⟨.int .i64, 1, 8, .int .i64 0⟩), (40, ⟨.slice 5, 1, 24, .slice none 0 0⟩), (5, ⟨.int .u8, 1, 1, .int .u8 0⟩)], live := [0, 1, 2, 4, 5, 6, 38], dt := [], nw := true }
theorem cfg51_ok : TTok Try.prog cfg51.tt := (TTok.cons tok42 (TTok.cons tok3 (TTok.cons tok40 (TTok.cons tok5 TTok.nil))))
def cfg52 : Cfg := { tt := [(26, ⟨.slice 3, 1, 24, .slice none 0 0⟩), (3, ⟨.int .i64, 1, 8, .int .i64 0⟩)], live := [0, 1, 4, 5, 7, 8, 9, 16], dt := [], nw := true }
theorem cfg52_ok : TTok Try.prog cfg52.tt := (TTok.cons tok26 (TTok.cons tok3 TTok.nil))
def cfg56 : Cfg := { tt := [(3, ⟨.int .i64, 1, 8, .int .i64 0⟩)], live := [0, 2], dt := [], nw := true }
theorem cfg56_ok : TTok Try.prog cfg56.tt := (TTok.cons tok3 TTok.nil)
def cfg60 : Cfg := { tt := [(3, ⟨.int .i64, 1, 8, .int .i64 0⟩), (26, ⟨.slice 3, 1, 24, .slice none 0 0⟩), (66, ⟨.func, 1, 8, .nilFunc⟩)], live := [0, 1, 2, 6, 7, 8, 9, 13, 30, 35, 54], dt := [], nw := true }
theorem cfg60_ok : TTok Try.prog cfg60.tt := (TTok.cons tok3 (TTok.cons tok26 (TTok.cons tok66 TTok.nil)))
def cfg61 : Cfg := { tt := [(22, ⟨.slice 42, 1, 24, .slice none 0 0⟩), (3, ⟨.int .i64, 1, 8, .int .i64 0⟩), (42, ⟨.struct [(0, 3), (1, 3), (2, 40)], 3, 40, .agg #[.int .i64 0, .int .i64 0, .slice none 0 0]⟩), (26, ⟨.slice 3, 1, 24, .slice none 0 0⟩), (40, ⟨.slice 5, 1, 24, .slice none 0 0⟩), (5, ⟨.int .u8, 1, 1, .int .u8 0⟩)], live := [0, 1, 4, 5, 7, 8, 9, 10, 11, 17], dt := [], nw := true }
theorem cfg61_ok : TTok Try.prog cfg61.tt := (TTok.cons tok22 (TTok.cons tok3 (TTok.cons tok42 (TTok.cons tok26 (TTok.cons tok40 (TTok.cons tok5 TTok.nil))))))
def cfg62 : Cfg := { tt := [(22, ⟨.slice 42, 1, 24, .slice none 0 0⟩), (3, ⟨.int .i64, 1, 8, .int .i64 0⟩), (42, ⟨.struct [(0, 3), (1, 3), (2, 40)], 3, 40, .agg #[.int .i64 0, .int .i64 0, .slice none 0 0]⟩), (40, ⟨.slice 5, 1, 24, .slice none 0 0⟩), (5, ⟨.int .u8, 1, 1, .int .u8 0⟩)], live := [0, 1, 4, 5, 7, 8, 9, 16], dt := [], nw := true }
theorem cfg62_ok : TTok Try.prog cfg62.tt := (TTok.cons tok22 (TTok.cons tok3 (TTok.cons tok42 (TTok.cons tok40 (TTok.cons tok5 TTok.nil)))))
def cfg63 : Cfg := { tt := [(3, ⟨.int .i64, 1, 8, .int .i64 0⟩)], live := [0, 1, 4, 5, 8, 9, 11, 14, 16], dt := [], nw := true }
theorem cfg63_ok : TTok Try.prog cfg63.tt := (TTok.cons tok3 TTok.nil)
def cfg76 : Cfg := { tt := [(3, ⟨.int .i64, 1, 8, .int .i64 0⟩), (26, ⟨.slice 3, 1, 24, .slice none 0 0⟩)], live := [0, 1, 2, 3, 8, 9, 14, 34], dt := [(4, [(0, 0), (1, 0), (2, 0), (3, 0), (4, 0), (5, 0), (6, 0), (7, 0), (8, 0), (9, 0), (10, 0), (11, 0), (12, 0), (13, 0), (14, 1), (15, 0), (16, 0)]), (6, [(0, 0), (1, 0), (2, 2), (3, 2), (4, 2), (5, 0), (6, 0), (7, 0), (8, 0), (9, 0), (10, 0), (11, 0), (12, 0), (13, 0), (14, 0), (15, 3), (16, 2), (17, 3)])], nw := true }
theorem cfg76_ok : TTok Try.prog cfg76.tt := (TTok.cons tok3 (TTok.cons tok26 TTok.nil))
def cfg77 : Cfg := { tt := [(3, ⟨.int .i64, 1, 8, .int .i64 0⟩), (79, ⟨.int .u64, 1, 8, .int .u64 0⟩), (26, ⟨.slice 3, 1, 24, .slice none 0 0⟩), (66, ⟨.func, 1, 8, .nilFunc⟩)], live := [0, 1, 2, 3, 4, 10, 11, 12, 13, 14, 15, 16, 17, 18, 19, 20, 21, 22, 23, 24, 28, 33, 50, 58, 80, 85, 103, 110, 140, 151, 171, 185, 199, 213], dt := [(5, [(0, 0), (1, 0), (2, 0), (3, 0), (4, 0), (5, 0), (6, 0), (7, 0), (8, 0), (9, 1), (10, 0)]), (11, [(0, 0), (1, 0), (2, 2), (3, 2), (4, 2), (5, 0), (6, 0), (7, 0), (8, 0), (9, 0), (10, 0), (11, 0), (12, 0), (13, 0), (14, 0), (15, 3), (16, 2), (17, 3)]), (17, [(0, 0), (1, 0), (2, 0), (3, 0), (4, 0), (5, 0), (6, 0), (7, 0), (8, 0), (9, 1), (10, 0), (11, 0)]), (23, [(0, 0), (1, 0), (2, 2), (3, 2), (4, 2), (5, 0), (6, 0), (7, 0), (8, 0), (9, 0), (10, 0), (11, 0), (12, 0), (13, 0), (14, 0), (15, 3), (16, 2), (17, 3)]), (35, [(0, 0), (1, 0), (2, 0), (3, 0), (4, 0), (5, 0), (6, 0), (7, 0), (8, 0), (9, 0), (10, 0), (11, 1), (12, 0), (13, 0)])], nw := true }
theorem cfg77_ok : TTok Try.prog cfg77.tt := (TTok.cons tok3 (TTok.cons tok79 (TTok.cons tok26 (TTok.cons tok66 TTok.nil))))
def cfg83 : Cfg := { tt := [(3, ⟨.int .i64, 1, 8, .int .i64 0⟩), (26, ⟨.slice 3, 1, 24, .slice none 0 0⟩), (66, ⟨.func, 1, 8, .nilFunc⟩)], live := [0, 1, 2, 3, 4, 10, 11, 20, 23], dt := [], nw := true }
theorem cfg83_ok : TTok Try.prog cfg83.tt := (TTok.cons tok3 (TTok.cons tok26 (TTok.cons tok66 TTok.nil)))
def cfg85 : Cfg := { tt := [(3, ⟨.int .i64, 1, 8, .int .i64 0⟩), (26, ⟨.slice 3, 1, 24, .slice none 0 0⟩)], live := [0, 1, 2, 3, 10, 13], dt := [(3, [(0, 0), (1, 0), (2, 0), (3, 0), (4, 2), (5, 2), (6, 2), (7, 2), (8, 0), (9, 0), (10, 0), (11, 0), (12, 0), (13, 0), (14, 0), (15, 0), (16, 0), (17, 0), (18, 0), (19, 0), (20, 0), (21, 3), (22, 2), (23, 3)])], nw := true }
theorem cfg85_ok : TTok Try.prog cfg85.tt := (TTok.cons tok3 (TTok.cons tok26 TTok.nil))
theorem mixed : Try.prog.follows .mixedOrders = true := by kernel_rfl
end Go.Proofs
