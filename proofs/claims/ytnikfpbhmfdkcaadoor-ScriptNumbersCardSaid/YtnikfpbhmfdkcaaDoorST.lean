/- Tables of the program types and of its functions orders. -/
import Derived.Test.YtnikfpbhmfdkcaaDoorSxI
import Derived.Test.YtnikfpbhmfdkcaaDoorSxF
import Derived.Test.YtnikfpbhmfdkcaaDoorProg
namespace Go.Proofs
set_option linter.unusedVariables false
set_option linter.unusedSimpArgs false
set_option linter.unusedSectionVars false
open Go Go.SX Go.RowKit
theorem tok1 : TI.ok Tryd.prog 1 ⟨.func, 1, 8, .nilFunc⟩ := ⟨by kernel_rfl, by kernel_rfl⟩
theorem tok2 : TI.ok Tryd.prog 2 ⟨.int .i64, 1, 8, .int .i64 0⟩ := ⟨by kernel_rfl, by kernel_rfl⟩
theorem tok3 : TI.ok Tryd.prog 3 ⟨.int .i64, 1, 8, .int .i64 0⟩ := ⟨by kernel_rfl, by kernel_rfl⟩
theorem tok4 : TI.ok Tryd.prog 4 ⟨.bool, 1, 1, .bool false⟩ := ⟨by kernel_rfl, by kernel_rfl⟩
theorem tok5 : TI.ok Tryd.prog 5 ⟨.int .u8, 1, 1, .int .u8 0⟩ := ⟨by kernel_rfl, by kernel_rfl⟩
theorem tok6 : TI.ok Tryd.prog 6 ⟨.int .u8, 1, 1, .int .u8 0⟩ := ⟨by kernel_rfl, by kernel_rfl⟩
theorem tok7 : TI.ok Tryd.prog 7 ⟨.struct [(0, 2), (1, 3), (2, 4), (3, 6)], 4, 24, .agg #[.int .i64 0, .int .i64 0, .bool false, .int .u8 0]⟩ := ⟨by kernel_rfl, by kernel_rfl⟩
theorem tok8 : TI.ok Tryd.prog 8 ⟨.struct [(0, 2), (1, 3), (2, 4), (3, 6)], 4, 24, .agg #[.int .i64 0, .int .i64 0, .bool false, .int .u8 0]⟩ := ⟨by kernel_rfl, by kernel_rfl⟩
theorem tok9 : TI.ok Tryd.prog 9 ⟨.str, 1, 16, .string ⟨#[]⟩⟩ := ⟨by kernel_rfl, by kernel_rfl⟩
theorem tok10 : TI.ok Tryd.prog 10 ⟨.str, 1, 16, .string ⟨#[]⟩⟩ := ⟨by kernel_rfl, by kernel_rfl⟩
theorem tok11 : TI.ok Tryd.prog 11 ⟨.str, 1, 16, .string ⟨#[]⟩⟩ := ⟨by kernel_rfl, by kernel_rfl⟩
theorem tok12 : TI.ok Tryd.prog 12 ⟨.int .u64, 1, 8, .int .u64 0⟩ := ⟨by kernel_rfl, by kernel_rfl⟩
theorem tok13 : TI.ok Tryd.prog 13 ⟨.struct [(0, 9), (1, 12)], 2, 24, .agg #[.string ⟨#[]⟩, .int .u64 0]⟩ := ⟨by kernel_rfl, by kernel_rfl⟩
theorem tok14 : TI.ok Tryd.prog 14 ⟨.struct [(0, 9), (1, 12)], 2, 24, .agg #[.string ⟨#[]⟩, .int .u64 0]⟩ := ⟨by kernel_rfl, by kernel_rfl⟩
theorem tok15 : TI.ok Tryd.prog 15 ⟨.ptr 94, 1, 8, .pointer none⟩ := ⟨by kernel_rfl, by kernel_rfl⟩
theorem tok16 : TI.ok Tryd.prog 16 ⟨.ptr 97, 1, 8, .pointer none⟩ := ⟨by kernel_rfl, by kernel_rfl⟩
theorem tok17 : TI.ok Tryd.prog 17 ⟨.ptr 104, 1, 8, .pointer none⟩ := ⟨by kernel_rfl, by kernel_rfl⟩
theorem tok18 : TI.ok Tryd.prog 18 ⟨.struct [(0, 17)], 1, 8, .agg #[.pointer none]⟩ := ⟨by kernel_rfl, by kernel_rfl⟩
theorem tok19 : TI.ok Tryd.prog 19 ⟨.struct [(0, 17)], 1, 8, .agg #[.pointer none]⟩ := ⟨by kernel_rfl, by kernel_rfl⟩
theorem tok20 : TI.ok Tryd.prog 20 ⟨.iface, 1, 16, .nilIface⟩ := ⟨by kernel_rfl, by kernel_rfl⟩
theorem tok21 : TI.ok Tryd.prog 21 ⟨.int .i32, 1, 4, .int .i32 0⟩ := ⟨by kernel_rfl, by kernel_rfl⟩
theorem tok22 : TI.ok Tryd.prog 22 ⟨.slice 39, 1, 24, .slice none 0 0⟩ := ⟨by kernel_rfl, by kernel_rfl⟩
theorem tok23 : TI.ok Tryd.prog 23 ⟨.func, 1, 8, .nilFunc⟩ := ⟨by kernel_rfl, by kernel_rfl⟩
theorem tok24 : TI.ok Tryd.prog 24 ⟨.int .i64, 1, 8, .int .i64 0⟩ := ⟨by kernel_rfl, by kernel_rfl⟩
theorem tok26 : TI.ok Tryd.prog 26 ⟨.func, 1, 8, .nilFunc⟩ := ⟨by kernel_rfl, by kernel_rfl⟩
theorem tok28 : TI.ok Tryd.prog 28 ⟨.func, 1, 8, .nilFunc⟩ := ⟨by kernel_rfl, by kernel_rfl⟩
theorem tok29 : TI.ok Tryd.prog 29 ⟨.func, 1, 8, .nilFunc⟩ := ⟨by kernel_rfl, by kernel_rfl⟩
theorem tok30 : TI.ok Tryd.prog 30 ⟨.func, 1, 8, .nilFunc⟩ := ⟨by kernel_rfl, by kernel_rfl⟩
theorem tok31 : TI.ok Tryd.prog 31 ⟨.func, 1, 8, .nilFunc⟩ := ⟨by kernel_rfl, by kernel_rfl⟩
theorem tok33 : TI.ok Tryd.prog 33 ⟨.func, 1, 8, .nilFunc⟩ := ⟨by kernel_rfl, by kernel_rfl⟩
theorem tok34 : TI.ok Tryd.prog 34 ⟨.slice 9, 1, 24, .slice none 0 0⟩ := ⟨by kernel_rfl, by kernel_rfl⟩
theorem tok35 : TI.ok Tryd.prog 35 ⟨.func, 1, 8, .nilFunc⟩ := ⟨by kernel_rfl, by kernel_rfl⟩
theorem tok36 : TI.ok Tryd.prog 36 ⟨.struct [(0, 3), (1, 3), (2, 3), (3, 3), (4, 3), (5, 5), (6, 3)], 7, 56, .agg #[.int .i64 0, .int .i64 0, .int .i64 0, .int .i64 0, .int .i64 0, .int .u8 0, .int .i64 0]⟩ := ⟨by kernel_rfl, by kernel_rfl⟩
theorem tok37 : TI.ok Tryd.prog 37 ⟨.struct [(0, 3), (1, 3), (2, 3), (3, 3), (4, 3), (5, 5), (6, 3)], 7, 56, .agg #[.int .i64 0, .int .i64 0, .int .i64 0, .int .i64 0, .int .i64 0, .int .u8 0, .int .i64 0]⟩ := ⟨by kernel_rfl, by kernel_rfl⟩
theorem tok38 : TI.ok Tryd.prog 38 ⟨.struct [(0, 3), (1, 3), (2, 37)], 9, 72, .agg #[.int .i64 0, .int .i64 0, .int .i64 0, .int .i64 0, .int .i64 0, .int .i64 0, .int .i64 0, .int .u8 0, .int .i64 0]⟩ := ⟨by kernel_rfl, by kernel_rfl⟩
theorem tok39 : TI.ok Tryd.prog 39 ⟨.struct [(0, 3), (1, 3), (2, 37)], 9, 72, .agg #[.int .i64 0, .int .i64 0, .int .i64 0, .int .i64 0, .int .i64 0, .int .i64 0, .int .i64 0, .int .u8 0, .int .i64 0]⟩ := ⟨by kernel_rfl, by kernel_rfl⟩
theorem tok40 : TI.ok Tryd.prog 40 ⟨.ptr 46, 1, 8, .pointer none⟩ := ⟨by kernel_rfl, by kernel_rfl⟩
theorem tok41 : TI.ok Tryd.prog 41 ⟨.ptr 44, 1, 8, .pointer none⟩ := ⟨by kernel_rfl, by kernel_rfl⟩
theorem tok42 : TI.ok Tryd.prog 42 ⟨.slice 5, 1, 24, .slice none 0 0⟩ := ⟨by kernel_rfl, by kernel_rfl⟩
theorem tok43 : TI.ok Tryd.prog 43 ⟨.struct [(0, 41), (1, 42)], 2, 32, .agg #[.pointer none, .slice none 0 0]⟩ := ⟨by kernel_rfl, by kernel_rfl⟩
theorem tok44 : TI.ok Tryd.prog 44 ⟨.struct [(0, 41), (1, 42)], 2, 32, .agg #[.pointer none, .slice none 0 0]⟩ := ⟨by kernel_rfl, by kernel_rfl⟩
theorem tok45 : TI.ok Tryd.prog 45 ⟨.struct [(0, 44), (2, 4)], 3, 40, .agg #[.pointer none, .slice none 0 0, .bool false]⟩ := ⟨by kernel_rfl, by kernel_rfl⟩
theorem tok46 : TI.ok Tryd.prog 46 ⟨.struct [(0, 44), (2, 4)], 3, 40, .agg #[.pointer none, .slice none 0 0, .bool false]⟩ := ⟨by kernel_rfl, by kernel_rfl⟩
theorem tok47 : TI.ok Tryd.prog 47 ⟨.func, 1, 8, .nilFunc⟩ := ⟨by kernel_rfl, by kernel_rfl⟩
theorem tok48 : TI.ok Tryd.prog 48 ⟨.func, 1, 8, .nilFunc⟩ := ⟨by kernel_rfl, by kernel_rfl⟩
theorem tok49 : TI.ok Tryd.prog 49 ⟨.func, 1, 8, .nilFunc⟩ := ⟨by kernel_rfl, by kernel_rfl⟩
theorem tok51 : TI.ok Tryd.prog 51 ⟨.func, 1, 8, .nilFunc⟩ := ⟨by kernel_rfl, by kernel_rfl⟩
theorem tok53 : TI.ok Tryd.prog 53 ⟨.func, 1, 8, .nilFunc⟩ := ⟨by kernel_rfl, by kernel_rfl⟩
theorem tok54 : TI.ok Tryd.prog 54 ⟨.func, 1, 8, .nilFunc⟩ := ⟨by kernel_rfl, by kernel_rfl⟩
theorem tok55 : TI.ok Tryd.prog 55 ⟨.func, 1, 8, .nilFunc⟩ := ⟨by kernel_rfl, by kernel_rfl⟩
theorem tok57 : TI.ok Tryd.prog 57 ⟨.func, 1, 8, .nilFunc⟩ := ⟨by kernel_rfl, by kernel_rfl⟩
theorem tok58 : TI.ok Tryd.prog 58 ⟨.iface, 1, 16, .nilIface⟩ := ⟨by kernel_rfl, by kernel_rfl⟩
theorem tok59 : TI.ok Tryd.prog 59 ⟨.iface, 1, 16, .nilIface⟩ := ⟨by kernel_rfl, by kernel_rfl⟩
theorem tok61 : TI.ok Tryd.prog 61 ⟨.func, 1, 8, .nilFunc⟩ := ⟨by kernel_rfl, by kernel_rfl⟩
theorem tok62 : TI.ok Tryd.prog 62 ⟨.func, 1, 8, .nilFunc⟩ := ⟨by kernel_rfl, by kernel_rfl⟩
theorem tok63 : TI.ok Tryd.prog 63 ⟨.func, 1, 8, .nilFunc⟩ := ⟨by kernel_rfl, by kernel_rfl⟩
theorem tok64 : TI.ok Tryd.prog 64 ⟨.func, 1, 8, .nilFunc⟩ := ⟨by kernel_rfl, by kernel_rfl⟩
theorem tok65 : TI.ok Tryd.prog 65 ⟨.ptr 5, 1, 8, .pointer none⟩ := ⟨by kernel_rfl, by kernel_rfl⟩
theorem tok66 : TI.ok Tryd.prog 66 ⟨.func, 1, 8, .nilFunc⟩ := ⟨by kernel_rfl, by kernel_rfl⟩
theorem tok67 : TI.ok Tryd.prog 67 ⟨.func, 1, 8, .nilFunc⟩ := ⟨by kernel_rfl, by kernel_rfl⟩
theorem tok68 : TI.ok Tryd.prog 68 ⟨.slice 71, 1, 24, .slice none 0 0⟩ := ⟨by kernel_rfl, by kernel_rfl⟩
theorem tok69 : TI.ok Tryd.prog 69 ⟨.func, 1, 8, .nilFunc⟩ := ⟨by kernel_rfl, by kernel_rfl⟩
theorem tok70 : TI.ok Tryd.prog 70 ⟨.ptr 37, 1, 8, .pointer none⟩ := ⟨by kernel_rfl, by kernel_rfl⟩
theorem tok71 : TI.ok Tryd.prog 71 ⟨.ptr 3, 1, 8, .pointer none⟩ := ⟨by kernel_rfl, by kernel_rfl⟩
theorem tok72 : TI.ok Tryd.prog 72 ⟨.arr 13 5, 13, 13, .agg #[.int .u8 0, .int .u8 0, .int .u8 0, .int .u8 0, .int .u8 0, .int .u8 0, .int .u8 0, .int .u8 0, .int .u8 0, .int .u8 0, .int .u8 0, .int .u8 0, .int .u8 0]⟩ := ⟨by kernel_rfl, by kernel_rfl⟩
theorem tok73 : TI.ok Tryd.prog 73 ⟨.func, 1, 8, .nilFunc⟩ := ⟨by kernel_rfl, by kernel_rfl⟩
theorem tok74 : TI.ok Tryd.prog 74 ⟨.func, 1, 8, .nilFunc⟩ := ⟨by kernel_rfl, by kernel_rfl⟩
theorem tok75 : TI.ok Tryd.prog 75 ⟨.func, 1, 8, .nilFunc⟩ := ⟨by kernel_rfl, by kernel_rfl⟩
theorem tok77 : TI.ok Tryd.prog 77 ⟨.func, 1, 8, .nilFunc⟩ := ⟨by kernel_rfl, by kernel_rfl⟩
theorem tok78 : TI.ok Tryd.prog 78 ⟨.func, 1, 8, .nilFunc⟩ := ⟨by kernel_rfl, by kernel_rfl⟩
theorem tok79 : TI.ok Tryd.prog 79 ⟨.func, 1, 8, .nilFunc⟩ := ⟨by kernel_rfl, by kernel_rfl⟩
theorem tok80 : TI.ok Tryd.prog 80 ⟨.int .u64, 1, 8, .int .u64 0⟩ := ⟨by kernel_rfl, by kernel_rfl⟩
theorem tok81 : TI.ok Tryd.prog 81 ⟨.func, 1, 8, .nilFunc⟩ := ⟨by kernel_rfl, by kernel_rfl⟩
theorem tok82 : TI.ok Tryd.prog 82 ⟨.int .u32, 1, 4, .int .u32 0⟩ := ⟨by kernel_rfl, by kernel_rfl⟩
theorem tok84 : TI.ok Tryd.prog 84 ⟨.func, 1, 8, .nilFunc⟩ := ⟨by kernel_rfl, by kernel_rfl⟩
theorem tok85 : TI.ok Tryd.prog 85 ⟨.func, 1, 8, .nilFunc⟩ := ⟨by kernel_rfl, by kernel_rfl⟩
theorem tok86 : TI.ok Tryd.prog 86 ⟨.func, 1, 8, .nilFunc⟩ := ⟨by kernel_rfl, by kernel_rfl⟩
theorem tok88 : TI.ok Tryd.prog 88 ⟨.func, 1, 8, .nilFunc⟩ := ⟨by kernel_rfl, by kernel_rfl⟩
theorem tok89 : TI.ok Tryd.prog 89 ⟨.arr 256 5, 256, 256, .agg #[.int .u8 0, .int .u8 0, .int .u8 0, .int .u8 0, .int .u8 0, .int .u8 0, .int .u8 0, .int .u8 0, .int .u8 0, .int .u8 0, .int .u8 0, .int .u8 0, .int .u8 0, .int .u8 0, .int .u8 0, .int .u8 0, .int .u8 0, .int .u8 0, .int .u8 0, .int .u8 0, .int .u8 0, .int .u8 0, .int .u8 0, .int .u8 0, .int .u8 0, .int .u8 0, .int .u8 0, .int .u8 0, .int .u8 0, .int .u8 0, .int .u8 0, .int .u8 0, .int .u8 0, .int .u8 0, .int .u8 0, .int .u8 0, .int .u8 0, .int .u8 0, .int .u8 0, .int .u8 0, .int .u8 0, .int .u8 0, .int .u8 0, .int .u8 0, .int .u8 0, .int .u8 0, .int .u8 0, .int .u8 0, .int .u8 0, .int .u8 0, .int .u8 0, .int .u8 0, .int .u8 0, .int .u8 0, .int .u8 0, .int .u8 0, .int .u8 0, .int .u8 0, .int .u8 0, .int .u8 0, .int .u8 0, .int .u8 0, .int .u8 0, .int .u8 0, .int .u8 0, .int .u8 0, .int .u8 0, .int .u8 0, .int .u8 0, .int .u8 0, .int .u8 0, .int .u8 0, .int .u8 0, .int .u8 0, .int .u8 0, .int .u8 0, .int .u8 0, .int .u8 0, .int .u8 0, .int .u8 0, .int .u8 0, .int .u8 0, .int .u8 0, .int .u8 0, .int .u8 0, .int .u8 0, .int .u8 0, .int .u8 0, .int .u8 0, .int .u8 0, .int .u8 0, .int .u8 0, .int .u8 0, .int .u8 0, .int .u8 0, .int .u8 0, .int .u8 0, .int .u8 0, .int .u8 0, .int .u8 0, .int .u8 0, .int .u8 0, .int .u8 0, .int .u8 0, .int .u8 0, .int .u8 0, .int .u8 0, .int .u8 0, .int .u8 0, .int .u8 0, .int .u8 0, .int .u8 0, .int .u8 0, .int .u8 0, .int .u8 0, .int .u8 0, .int .u8 0, .int .u8 0, .int .u8 0, .int .u8 0, .int .u8 0, .int .u8 0, .int .u8 0, .int .u8 0, .int .u8 0, .int .u8 0, .int .u8 0, .int .u8 0, .int .u8 0, .int .u8 0, .int .u8 0, .int .u8 0, .int .u8 0, .int .u8 0, .int .u8 0, .int .u8 0, .int .u8 0, .int .u8 0, .int .u8 0, .int .u8 0, .int .u8 0, .int .u8 0, .int .u8 0, .int .u8 0, .int .u8 0, .int .u8 0, .int .u8 0, .int .u8 0, .int .u8 0, .int .u8 0, .int .u8 0, .int .u8 0, .int .u8 0, .int .u8 0, .int .u8 0, .int .u8 0, .int .u8 0, .int .u8 0, .int .u8 0, .int .u8 0, .int .u8 0, .int .u8 0, .int .u8 0, .int .u8 0, .int .u8 0, .int .u8 0, .int .u8 0, .int .u8 0, .int .u8 0, .int .u8 0, .int .u8 0, .int .u8 0, .int .u8 0, .int .u8 0, .int .u8 0, .int .u8 0, .int .u8 0, .int .u8 0, .int .u8 0, .int .u8 0, .int .u8 0, .int .u8 0, .int .u8 0, .int .u8 0, .int .u8 0, .int .u8 0, .int .u8 0, .int .u8 0, .int .u8 0, .int .u8 0, .int .u8 0, .int .u8 0, .int .u8 0, .int .u8 0, .int .u8 0, .int .u8 0, .int .u8 0, .int .u8 0, .int .u8 0, .int .u8 0, .int .u8 0, .int .u8 0, .int .u8 0, .int .u8 0, .int .u8 0, .int .u8 0, .int .u8 0, .int .u8 0, .int .u8 0, .int .u8 0, .int .u8 0, .int .u8 0, .int .u8 0, .int .u8 0, .int .u8 0, .int .u8 0, .int .u8 0, .int .u8 0, .int .u8 0, .int .u8 0, .int .u8 0, .int .u8 0, .int .u8 0, .int .u8 0, .int .u8 0, .int .u8 0, .int .u8 0, .int .u8 0, .int .u8 0, .int .u8 0, .int .u8 0, .int .u8 0, .int .u8 0, .int .u8 0, .int .u8 0, .int .u8 0, .int .u8 0, .int .u8 0, .int .u8 0, .int .u8 0, .int .u8 0, .int .u8 0, .int .u8 0, .int .u8 0, .int .u8 0, .int .u8 0, .int .u8 0, .int .u8 0, .int .u8 0, .int .u8 0, .int .u8 0, .int .u8 0, .int .u8 0, .int .u8 0, .int .u8 0, .int .u8 0]⟩ := ⟨by kernel_rfl, by kernel_rfl⟩
theorem tok90 : TI.ok Tryd.prog 90 ⟨.struct [(0, 5), (1, 5)], 2, 2, .agg #[.int .u8 0, .int .u8 0]⟩ := ⟨by kernel_rfl, by kernel_rfl⟩
theorem tok91 : TI.ok Tryd.prog 91 ⟨.struct [(0, 5), (1, 5)], 2, 2, .agg #[.int .u8 0, .int .u8 0]⟩ := ⟨by kernel_rfl, by kernel_rfl⟩
theorem tok92 : TI.ok Tryd.prog 92 ⟨.arr 16 91, 32, 32, .agg #[.int .u8 0, .int .u8 0, .int .u8 0, .int .u8 0, .int .u8 0, .int .u8 0, .int .u8 0, .int .u8 0, .int .u8 0, .int .u8 0, .int .u8 0, .int .u8 0, .int .u8 0, .int .u8 0, .int .u8 0, .int .u8 0, .int .u8 0, .int .u8 0, .int .u8 0, .int .u8 0, .int .u8 0, .int .u8 0, .int .u8 0, .int .u8 0, .int .u8 0, .int .u8 0, .int .u8 0, .int .u8 0, .int .u8 0, .int .u8 0, .int .u8 0, .int .u8 0]⟩ := ⟨by kernel_rfl, by kernel_rfl⟩
theorem tok93 : TI.ok Tryd.prog 93 ⟨.struct [(0, 17), (1, 17), (2, 17), (3, 9)], 4, 40, .agg #[.pointer none, .pointer none, .pointer none, .string ⟨#[]⟩]⟩ := ⟨by kernel_rfl, by kernel_rfl⟩
theorem tok94 : TI.ok Tryd.prog 94 ⟨.struct [(0, 17), (1, 17), (2, 17), (3, 9)], 4, 40, .agg #[.pointer none, .pointer none, .pointer none, .string ⟨#[]⟩]⟩ := ⟨by kernel_rfl, by kernel_rfl⟩
theorem tok95 : TI.ok Tryd.prog 95 ⟨.arr 0 16, 0, 0, .agg #[]⟩ := ⟨by kernel_rfl, by kernel_rfl⟩
theorem tok96 : TI.ok Tryd.prog 96 ⟨.struct [(0, 95)], 0, 0, .agg #[]⟩ := ⟨by kernel_rfl, by kernel_rfl⟩
theorem tok97 : TI.ok Tryd.prog 97 ⟨.struct [(0, 95)], 0, 0, .agg #[]⟩ := ⟨by kernel_rfl, by kernel_rfl⟩
theorem tok98 : TI.ok Tryd.prog 98 ⟨.int .u8, 1, 1, .int .u8 0⟩ := ⟨by kernel_rfl, by kernel_rfl⟩
theorem tok99 : TI.ok Tryd.prog 99 ⟨.int .u8, 1, 1, .int .u8 0⟩ := ⟨by kernel_rfl, by kernel_rfl⟩
theorem tok100 : TI.ok Tryd.prog 100 ⟨.func, 1, 8, .nilFunc⟩ := ⟨by kernel_rfl, by kernel_rfl⟩
theorem tok101 : TI.ok Tryd.prog 101 ⟨.int .i32, 1, 4, .int .i32 0⟩ := ⟨by kernel_rfl, by kernel_rfl⟩
theorem tok102 : TI.ok Tryd.prog 102 ⟨.int .i32, 1, 4, .int .i32 0⟩ := ⟨by kernel_rfl, by kernel_rfl⟩
theorem tok103 : TI.ok Tryd.prog 103 ⟨.struct [(0, 12), (1, 12), (2, 82), (3, 98), (4, 5), (5, 5), (6, 99), (7, 100), (8, 65), (9, 101), (10, 102)], 11, 48, .agg #[.int .u64 0, .int .u64 0, .int .u32 0, .int .u8 0, .int .u8 0, .int .u8 0, .int .u8 0, .nilFunc, .pointer none, .int .i32 0, .int .i32 0]⟩ := ⟨by kernel_rfl, by kernel_rfl⟩
theorem tok104 : TI.ok Tryd.prog 104 ⟨.struct [(0, 12), (1, 12), (2, 82), (3, 98), (4, 5), (5, 5), (6, 99), (7, 100), (8, 65), (9, 101), (10, 102)], 11, 48, .agg #[.int .u64 0, .int .u64 0, .int .u32 0, .int .u8 0, .int .u8 0, .int .u8 0, .int .u8 0, .nilFunc, .pointer none, .int .i32 0, .int .i32 0]⟩ := ⟨by kernel_rfl, by kernel_rfl⟩
def cfg3 : Cfg := { tt := [(22, ⟨.slice 39, 1, 24, .slice none 0 0⟩), (3, ⟨.int .i64, 1, 8, .int .i64 0⟩), (24, ⟨.int .i64, 1, 8, .int .i64 0⟩), (9, ⟨.str, 1, 16, .string ⟨#[]⟩⟩), (39, ⟨.struct [(0, 3), (1, 3), (2, 37)], 9, 72, .agg #[.int .i64 0, .int .i64 0, .int .i64 0, .int .i64 0, .int .i64 0, .int .i64 0, .int .i64 0, .int .u8 0, .int .i64 0]⟩), (37, ⟨.struct [(0, 3), (1, 3), (2, 3), (3, 3), (4, 3), (5, 5), (6, 3)], 7, 56, .agg #[.int .i64 0, .int .i64 0, .int .i64 0, .int .i64 0, .int .i64 0, .int .u8 0, .int .i64 0]⟩), (5, ⟨.int .u8, 1, 1, .int .u8 0⟩)], live := [0, 2, 3, 4, 5, 6, 7, 8, 10, 11, 15, 23, 46, 49], dt := [], nw := true }
theorem cfg3_ok : TTok Tryd.prog cfg3.tt := (TTok.cons tok22 (TTok.cons tok3 (TTok.cons tok24 (TTok.cons tok9 (TTok.cons tok39 (TTok.cons tok37 (TTok.cons tok5 TTok.nil)))))))
def cfg4 : Cfg := { tt := [(3, ⟨.int .i64, 1, 8, .int .i64 0⟩), (9, ⟨.str, 1, 16, .string ⟨#[]⟩⟩), (4, ⟨.bool, 1, 1, .bool false⟩), (34, ⟨.slice 9, 1, 24, .slice none 0 0⟩)], live := [0, 1, 4, 5, 6, 7, 8, 10, 12, 13, 14, 22, 42, 57, 58, 59, 60, 68], dt := [], nw := true }
theorem cfg4_ok : TTok Tryd.prog cfg4.tt := (TTok.cons tok3 (TTok.cons tok9 (TTok.cons tok4 (TTok.cons tok34 TTok.nil))))
def cfg5 : Cfg := { tt := [(37, ⟨.struct [(0, 3), (1, 3), (2, 3), (3, 3), (4, 3), (5, 5), (6, 3)], 7, 56, .agg #[.int .i64 0, .int .i64 0, .int .i64 0, .int .i64 0, .int .i64 0, .int .u8 0, .int .i64 0]⟩), (39, ⟨.struct [(0, 3), (1, 3), (2, 37)], 9, 72, .agg #[.int .i64 0, .int .i64 0, .int .i64 0, .int .i64 0, .int .i64 0, .int .i64 0, .int .i64 0, .int .u8 0, .int .i64 0]⟩), (9, ⟨.str, 1, 16, .string ⟨#[]⟩⟩), (22, ⟨.slice 39, 1, 24, .slice none 0 0⟩), (3, ⟨.int .i64, 1, 8, .int .i64 0⟩), (24, ⟨.int .i64, 1, 8, .int .i64 0⟩), (5, ⟨.int .u8, 1, 1, .int .u8 0⟩)], live := [0, 1, 2, 3, 4, 5, 6, 8, 9], dt := [(5, [(0, 0), (1, 0), (2, 0), (3, 0), (4, 0), (5, 0), (6, 0), (7, 0), (8, 0), (9, 0), (10, 0), (11, 0), (12, 0), (13, 0), (14, 0), (15, 0), (16, 0), (17, 0), (18, 0), (19, 0), (20, 0), (21, 0), (22, 0), (23, 0), (24, 0), (25, 0), (26, 0), (27, 0), (28, 0), (29, 0), (30, 0), (31, 0), (32, 0), (33, 0), (34, 0)])], nw := true }
theorem cfg5_ok : TTok Tryd.prog cfg5.tt := (TTok.cons tok37 (TTok.cons tok39 (TTok.cons tok9 (TTok.cons tok22 (TTok.cons tok3 (TTok.cons tok24 (TTok.cons tok5 TTok.nil)))))))
def cfg6 : Cfg := { tt := [(46, ⟨.struct [(0, 44), (2, 4)], 3, 40, .agg #[.pointer none, .slice none 0 0, .bool false]⟩), (22, ⟨.slice 39, 1, 24, .slice none 0 0⟩), (3, ⟨.int .i64, 1, 8, .int .i64 0⟩), (39, ⟨.struct [(0, 3), (1, 3), (2, 37)], 9, 72, .agg #[.int .i64 0, .int .i64 0, .int .i64 0, .int .i64 0, .int .i64 0, .int .i64 0, .int .i64 0, .int .u8 0, .int .i64 0]⟩), (40, ⟨.ptr 46, 1, 8, .pointer none⟩), (4, ⟨.bool, 1, 1, .bool false⟩), (44, ⟨.struct [(0, 41), (1, 42)], 2, 32, .agg #[.pointer none, .slice none 0 0]⟩), (37, ⟨.struct [(0, 3), (1, 3), (2, 3), (3, 3), (4, 3), (5, 5), (6, 3)], 7, 56, .agg #[.int .i64 0, .int .i64 0, .int .i64 0, .int .i64 0, .int .i64 0, .int .u8 0, .int .i64 0]⟩), (41, ⟨.ptr 44, 1, 8, .pointer none⟩), (42, ⟨.slice 5, 1, 24, .slice none 0 0⟩), (5, ⟨.int .u8, 1, 1, .int .u8 0⟩)], live := [0, 2, 3, 4, 6, 9, 10, 11, 12, 19, 24], dt := [], nw := true }
theorem cfg6_ok : TTok Tryd.prog cfg6.tt := (TTok.cons tok46 (TTok.cons tok22 (TTok.cons tok3 (TTok.cons tok39 (TTok.cons tok40 (TTok.cons tok4 (TTok.cons tok44 (TTok.cons tok37 (TTok.cons tok41 (TTok.cons tok42 (TTok.cons tok5 TTok.nil)))))))))))
def cfg7 : Cfg := { tt := [(9, ⟨.str, 1, 16, .string ⟨#[]⟩⟩), (3, ⟨.int .i64, 1, 8, .int .i64 0⟩), (39, ⟨.struct [(0, 3), (1, 3), (2, 37)], 9, 72, .agg #[.int .i64 0, .int .i64 0, .int .i64 0, .int .i64 0, .int .i64 0, .int .i64 0, .int .i64 0, .int .u8 0, .int .i64 0]⟩), (22, ⟨.slice 39, 1, 24, .slice none 0 0⟩), (37, ⟨.struct [(0, 3), (1, 3), (2, 3), (3, 3), (4, 3), (5, 5), (6, 3)], 7, 56, .agg #[.int .i64 0, .int .i64 0, .int .i64 0, .int .i64 0, .int .i64 0, .int .u8 0, .int .i64 0]⟩), (5, ⟨.int .u8, 1, 1, .int .u8 0⟩)], live := [0, 2, 3, 4, 5, 6, 7, 8, 9, 10, 11, 14, 16, 35], dt := [], nw := true }
theorem cfg7_ok : TTok Tryd.prog cfg7.tt := (TTok.cons tok9 (TTok.cons tok3 (TTok.cons tok39 (TTok.cons tok22 (TTok.cons tok37 (TTok.cons tok5 TTok.nil))))))
def cfg8 : Cfg := { tt := [(22, ⟨.slice 39, 1, 24, .slice none 0 0⟩), (3, ⟨.int .i64, 1, 8, .int .i64 0⟩), (39, ⟨.struct [(0, 3), (1, 3), (2, 37)], 9, 72, .agg #[.int .i64 0, .int .i64 0, .int .i64 0, .int .i64 0, .int .i64 0, .int .i64 0, .int .i64 0, .int .u8 0, .int .i64 0]⟩), (37, ⟨.struct [(0, 3), (1, 3), (2, 3), (3, 3), (4, 3), (5, 5), (6, 3)], 7, 56, .agg #[.int .i64 0, .int .i64 0, .int .i64 0, .int .i64 0, .int .i64 0, .int .u8 0, .int .i64 0]⟩), (5, ⟨.int .u8, 1, 1, .int .u8 0⟩)], live := [0, 1, 4, 5, 10, 12, 13, 14, 24], dt := [(6, [(0, 0), (1, 0), (2, 0), (3, 0), (4, 0), (5, 0), (6, 0), (7, 0), (8, 0)])], nw := true }
theorem cfg8_ok : TTok Tryd.prog cfg8.tt := (TTok.cons tok22 (TTok.cons tok3 (TTok.cons tok39 (TTok.cons tok37 (TTok.cons tok5 TTok.nil)))))
def cfg9 : Cfg := { tt := [(3, ⟨.int .i64, 1, 8, .int .i64 0⟩), (21, ⟨.int .i32, 1, 4, .int .i32 0⟩), (9, ⟨.str, 1, 16, .string ⟨#[]⟩⟩)], live := [0, 2, 4], dt := [], nw := true }
theorem cfg9_ok : TTok Tryd.prog cfg9.tt := (TTok.cons tok3 (TTok.cons tok21 (TTok.cons tok9 TTok.nil)))
def cfg10 : Cfg := { tt := [(9, ⟨.str, 1, 16, .string ⟨#[]⟩⟩), (3, ⟨.int .i64, 1, 8, .int .i64 0⟩), (5, ⟨.int .u8, 1, 1, .int .u8 0⟩)], live := [0, 2, 3, 4, 21, 23, 24, 25, 36], dt := [], nw := true }
theorem cfg10_ok : TTok Tryd.prog cfg10.tt := (TTok.cons tok9 (TTok.cons tok3 (TTok.cons tok5 TTok.nil)))
def cfg11 : Cfg := { tt := [(39, ⟨.struct [(0, 3), (1, 3), (2, 37)], 9, 72, .agg #[.int .i64 0, .int .i64 0, .int .i64 0, .int .i64 0, .int .i64 0, .int .i64 0, .int .i64 0, .int .u8 0, .int .i64 0]⟩), (3, ⟨.int .i64, 1, 8, .int .i64 0⟩), (34, ⟨.slice 9, 1, 24, .slice none 0 0⟩), (9, ⟨.str, 1, 16, .string ⟨#[]⟩⟩), (37, ⟨.struct [(0, 3), (1, 3), (2, 3), (3, 3), (4, 3), (5, 5), (6, 3)], 7, 56, .agg #[.int .i64 0, .int .i64 0, .int .i64 0, .int .i64 0, .int .i64 0, .int .u8 0, .int .i64 0]⟩), (46, ⟨.struct [(0, 44), (2, 4)], 3, 40, .agg #[.pointer none, .slice none 0 0, .bool false]⟩), (4, ⟨.bool, 1, 1, .bool false⟩), (44, ⟨.struct [(0, 41), (1, 42)], 2, 32, .agg #[.pointer none, .slice none 0 0]⟩), (40, ⟨.ptr 46, 1, 8, .pointer none⟩), (5, ⟨.int .u8, 1, 1, .int .u8 0⟩), (41, ⟨.ptr 44, 1, 8, .pointer none⟩), (42, ⟨.slice 5, 1, 24, .slice none 0 0⟩)], live := [0, 1, 3, 4, 5, 6, 37, 46, 51], dt := [(1, [(1, 0), (2, 0), (0, 1), (3, 1), (4, 0)])], nw := true }
theorem cfg11_ok : TTok Tryd.prog cfg11.tt := (TTok.cons tok39 (TTok.cons tok3 (TTok.cons tok34 (TTok.cons tok9 (TTok.cons tok37 (TTok.cons tok46 (TTok.cons tok4 (TTok.cons tok44 (TTok.cons tok40 (TTok.cons tok5 (TTok.cons tok41 (TTok.cons tok42 TTok.nil))))))))))))
def cfg14 : Cfg := { tt := [(9, ⟨.str, 1, 16, .string ⟨#[]⟩⟩)], live := [0, 1, 4, 5, 6], dt := [], nw := true }
theorem cfg14_ok : TTok Tryd.prog cfg14.tt := (TTok.cons tok9 TTok.nil)
def cfg15 : Cfg := { tt := [(39, ⟨.struct [(0, 3), (1, 3), (2, 37)], 9, 72, .agg #[.int .i64 0, .int .i64 0, .int .i64 0, .int .i64 0, .int .i64 0, .int .i64 0, .int .i64 0, .int .u8 0, .int .i64 0]⟩), (9, ⟨.str, 1, 16, .string ⟨#[]⟩⟩), (34, ⟨.slice 9, 1, 24, .slice none 0 0⟩), (3, ⟨.int .i64, 1, 8, .int .i64 0⟩), (37, ⟨.struct [(0, 3), (1, 3), (2, 3), (3, 3), (4, 3), (5, 5), (6, 3)], 7, 56, .agg #[.int .i64 0, .int .i64 0, .int .i64 0, .int .i64 0, .int .i64 0, .int .u8 0, .int .i64 0]⟩), (70, ⟨.ptr 37, 1, 8, .pointer none⟩), (71, ⟨.ptr 3, 1, 8, .pointer none⟩), (68, ⟨.slice 71, 1, 24, .slice none 0 0⟩), (5, ⟨.int .u8, 1, 1, .int .u8 0⟩)], live := [0, 2, 3, 4, 5, 6, 7, 8, 9, 10, 27, 30, 39, 41, 46, 58, 81, 83, 84, 85, 86, 101], dt := [(2, [(1, 0), (2, 0), (3, 0), (0, 1), (4, 1), (5, 0), (6, 3)]), (16, [(1, 0), (2, 0), (3, 0), (0, 1), (4, 1), (5, 0), (6, 0), (7, 3)]), (25, [(0, 0), (1, 0), (2, 0), (3, 0), (4, 0), (5, 1), (6, 0), (7, 0), (8, 2), (9, 0), (10, 3), (11, 2)])], nw := true }
theorem cfg15_ok : TTok Tryd.prog cfg15.tt := (TTok.cons tok39 (TTok.cons tok9 (TTok.cons tok34 (TTok.cons tok3 (TTok.cons tok37 (TTok.cons tok70 (TTok.cons tok71 (TTok.cons tok68 (TTok.cons tok5 TTok.nil)))))))))
def cfg16 : Cfg := { tt := [(3, ⟨.int .i64, 1, 8, .int .i64 0⟩), (34, ⟨.slice 9, 1, 24, .slice none 0 0⟩), (9, ⟨.str, 1, 16, .string ⟨#[]⟩⟩)], live := [0, 1, 4, 12], dt := [], nw := true }
theorem cfg16_ok : TTok Tryd.prog cfg16.tt := (TTok.cons tok3 (TTok.cons tok34 (TTok.cons tok9 TTok.nil)))
def cfg17 : Cfg := { tt := [(34, ⟨.slice 9, 1, 24, .slice none 0 0⟩), (9, ⟨.str, 1, 16, .string ⟨#[]⟩⟩)], live := [0], dt := [], nw := true }
theorem cfg17_ok : TTok Tryd.prog cfg17.tt := (TTok.cons tok34 (TTok.cons tok9 TTok.nil))
def cfg18 : Cfg := { tt := [(3, ⟨.int .i64, 1, 8, .int .i64 0⟩)], live := [0, 2, 3], dt := [], nw := true }
theorem cfg18_ok : TTok Tryd.prog cfg18.tt := (TTok.cons tok3 TTok.nil)
def cfg20 : Cfg := { tt := [(3, ⟨.int .i64, 1, 8, .int .i64 0⟩), (46, ⟨.struct [(0, 44), (2, 4)], 3, 40, .agg #[.pointer none, .slice none 0 0, .bool false]⟩), (4, ⟨.bool, 1, 1, .bool false⟩), (72, ⟨.arr 13 5, 13, 13, .agg #[.int .u8 0, .int .u8 0, .int .u8 0, .int .u8 0, .int .u8 0, .int .u8 0, .int .u8 0, .int .u8 0, .int .u8 0, .int .u8 0, .int .u8 0, .int .u8 0, .int .u8 0]⟩), (5, ⟨.int .u8, 1, 1, .int .u8 0⟩), (44, ⟨.struct [(0, 41), (1, 42)], 2, 32, .agg #[.pointer none, .slice none 0 0]⟩), (42, ⟨.slice 5, 1, 24, .slice none 0 0⟩), (41, ⟨.ptr 44, 1, 8, .pointer none⟩)], live := [0, 1, 4, 5, 11, 26], dt := [(9, [(0, 0), (1, 0), (2, 0), (3, 0), (4, 0), (5, 1)])], nw := true }
theorem cfg20_ok : TTok Tryd.prog cfg20.tt := (TTok.cons tok3 (TTok.cons tok46 (TTok.cons tok4 (TTok.cons tok72 (TTok.cons tok5 (TTok.cons tok44 (TTok.cons tok42 (TTok.cons tok41 TTok.nil))))))))
def cfg21 : Cfg := { tt := [(37, ⟨.struct [(0, 3), (1, 3), (2, 3), (3, 3), (4, 3), (5, 5), (6, 3)], 7, 56, .agg #[.int .i64 0, .int .i64 0, .int .i64 0, .int .i64 0, .int .i64 0, .int .u8 0, .int .i64 0]⟩), (3, ⟨.int .i64, 1, 8, .int .i64 0⟩), (34, ⟨.slice 9, 1, 24, .slice none 0 0⟩), (9, ⟨.str, 1, 16, .string ⟨#[]⟩⟩), (46, ⟨.struct [(0, 44), (2, 4)], 3, 40, .agg #[.pointer none, .slice none 0 0, .bool false]⟩), (4, ⟨.bool, 1, 1, .bool false⟩), (44, ⟨.struct [(0, 41), (1, 42)], 2, 32, .agg #[.pointer none, .slice none 0 0]⟩), (5, ⟨.int .u8, 1, 1, .int .u8 0⟩), (70, ⟨.ptr 37, 1, 8, .pointer none⟩), (71, ⟨.ptr 3, 1, 8, .pointer none⟩), (68, ⟨.slice 71, 1, 24, .slice none 0 0⟩), (40, ⟨.ptr 46, 1, 8, .pointer none⟩), (41, ⟨.ptr 44, 1, 8, .pointer none⟩), (42, ⟨.slice 5, 1, 24, .slice none 0 0⟩)], live := [0, 1, 3, 4, 5, 6, 8, 14, 28, 29, 30, 31, 49, 55], dt := [(1, [(1, 0), (2, 0), (0, 1), (3, 1), (4, 0)])], nw := true }
theorem cfg21_ok : TTok Tryd.prog cfg21.tt := (TTok.cons tok37 (TTok.cons tok3 (TTok.cons tok34 (TTok.cons tok9 (TTok.cons tok46 (TTok.cons tok4 (TTok.cons tok44 (TTok.cons tok5 (TTok.cons tok70 (TTok.cons tok71 (TTok.cons tok68 (TTok.cons tok40 (TTok.cons tok41 (TTok.cons tok42 TTok.nil))))))))))))))
def cfg23 : Cfg := { tt := [(9, ⟨.str, 1, 16, .string ⟨#[]⟩⟩), (3, ⟨.int .i64, 1, 8, .int .i64 0⟩)], live := [0, 1, 4, 5, 6, 7, 12], dt := [(3, [(0, 0), (1, 0), (2, 0), (3, 0), (4, 0), (5, 0), (6, 0), (7, 0), (8, 0), (9, 0), (10, 0), (11, 0)])], nw := true }
theorem cfg23_ok : TTok Tryd.prog cfg23.tt := (TTok.cons tok9 (TTok.cons tok3 TTok.nil))
def cfg24 : Cfg := { tt := [(9, ⟨.str, 1, 16, .string ⟨#[]⟩⟩)], live := [0, 2], dt := [], nw := true }
theorem cfg24_ok : TTok Tryd.prog cfg24.tt := (TTok.cons tok9 TTok.nil)
def cfg25 : Cfg := { tt := [(9, ⟨.str, 1, 16, .string ⟨#[]⟩⟩), (34, ⟨.slice 9, 1, 24, .slice none 0 0⟩), (3, ⟨.int .i64, 1, 8, .int .i64 0⟩)], live := [0, 1, 4, 6], dt := [], nw := true }
theorem cfg25_ok : TTok Tryd.prog cfg25.tt := (TTok.cons tok9 (TTok.cons tok34 (TTok.cons tok3 TTok.nil)))
def cfg26 : Cfg := { tt := [(34, ⟨.slice 9, 1, 24, .slice none 0 0⟩), (9, ⟨.str, 1, 16, .string ⟨#[]⟩⟩)], live := [0], dt := [], nw := true }
theorem cfg26_ok : TTok Tryd.prog cfg26.tt := (TTok.cons tok34 (TTok.cons tok9 TTok.nil))
def cfg27 : Cfg := { tt := [(37, ⟨.struct [(0, 3), (1, 3), (2, 3), (3, 3), (4, 3), (5, 5), (6, 3)], 7, 56, .agg #[.int .i64 0, .int .i64 0, .int .i64 0, .int .i64 0, .int .i64 0, .int .u8 0, .int .i64 0]⟩), (3, ⟨.int .i64, 1, 8, .int .i64 0⟩), (68, ⟨.slice 71, 1, 24, .slice none 0 0⟩), (5, ⟨.int .u8, 1, 1, .int .u8 0⟩), (71, ⟨.ptr 3, 1, 8, .pointer none⟩)], live := [0, 1, 4, 8, 9, 17, 27, 41, 54, 70], dt := [(8, [(0, 0), (1, 0), (2, 0), (3, 0), (4, 0), (5, 0), (6, 1), (7, 0)]), (12, [(0, 0), (1, 0), (2, 0), (3, 0), (4, 0), (5, 0), (6, 0), (7, 0), (8, 0), (9, 1), (10, 0)]), (14, [(0, 0), (1, 0), (2, 0), (3, 0), (4, 0), (5, 0), (6, 0), (7, 0), (8, 0), (9, 0), (10, 1), (11, 0)]), (16, [(0, 0), (1, 0), (2, 0), (3, 0), (4, 0), (5, 0), (6, 0), (7, 0), (8, 0), (9, 0), (10, 0), (11, 0), (12, 0), (13, 1), (14, 0)])], nw := true }
theorem cfg27_ok : TTok Tryd.prog cfg27.tt := (TTok.cons tok37 (TTok.cons tok3 (TTok.cons tok68 (TTok.cons tok5 (TTok.cons tok71 TTok.nil)))))
def cfg31 : Cfg := { tt := [(9, ⟨.str, 1, 16, .string ⟨#[]⟩⟩), (3, ⟨.int .i64, 1, 8, .int .i64 0⟩)], live := [0, 1, 4], dt := [], nw := true }
theorem cfg31_ok : TTok Tryd.prog cfg31.tt := (TTok.cons tok9 (TTok.cons tok3 TTok.nil))
def cfg32 : Cfg := { tt := [(34, ⟨.slice 9, 1, 24, .slice none 0 0⟩), (3, ⟨.int .i64, 1, 8, .int .i64 0⟩), (9, ⟨.str, 1, 16, .string ⟨#[]⟩⟩)], live := [0, 1, 4, 5, 7, 8, 9, 16], dt := [], nw := true }
theorem cfg32_ok : TTok Tryd.prog cfg32.tt := (TTok.cons tok34 (TTok.cons tok3 (TTok.cons tok9 TTok.nil)))
def cfg38 : Cfg := { tt := [(3, ⟨.int .i64, 1, 8, .int .i64 0⟩), (9, ⟨.str, 1, 16, .string ⟨#[]⟩⟩), (34, ⟨.slice 9, 1, 24, .slice none 0 0⟩)], live := [0, 1, 2, 3, 8, 9, 10, 11, 13, 15, 20, 36, 41], dt := [], nw := true }
theorem cfg38_ok : TTok Tryd.prog cfg38.tt := (TTok.cons tok3 (TTok.cons tok9 (TTok.cons tok34 TTok.nil)))
theorem mixed : Tryd.prog.follows .mixedOrders = true := by kernel_rfl
end Go.Proofs
