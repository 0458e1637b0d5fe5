/- Tables of the program types and of its functions orders. -/
import Derived.Test.YtnabelpgmcenlaaSxI
import Derived.Test.YtnabelpgmcenlaaSxF
import Derived.Test.YtnabelpgmcenlaaProg
namespace Go.Proofs
set_option linter.unusedVariables false
set_option linter.unusedSimpArgs false
open Go Go.SX Go.RowKit
theorem tok1 : TI.ok Try.prog 1 ⟨.func, 1, 8, .nilFunc⟩ := ⟨by kernel_rfl, by kernel_rfl⟩
theorem tok2 : TI.ok Try.prog 2 ⟨.int .i64, 1, 8, .int .i64 0⟩ := ⟨by kernel_rfl, by kernel_rfl⟩
theorem tok3 : TI.ok Try.prog 3 ⟨.int .i64, 1, 8, .int .i64 0⟩ := ⟨by kernel_rfl, by kernel_rfl⟩
theorem tok4 : TI.ok Try.prog 4 ⟨.bool, 1, 1, .bool false⟩ := ⟨by kernel_rfl, by kernel_rfl⟩
theorem tok5 : TI.ok Try.prog 5 ⟨.int .u8, 1, 1, .int .u8 0⟩ := ⟨by kernel_rfl, by kernel_rfl⟩
theorem tok6 : TI.ok Try.prog 6 ⟨.int .u8, 1, 1, .int .u8 0⟩ := ⟨by kernel_rfl, by kernel_rfl⟩
theorem tok7 : TI.ok Try.prog 7 ⟨.struct [(0, 2), (1, 3), (2, 4), (3, 6)], 4, 24, .agg #[.int .i64 0, .int .i64 0, .bool false, .int .u8 0]⟩ := ⟨by kernel_rfl, by kernel_rfl⟩
theorem tok8 : TI.ok Try.prog 8 ⟨.struct [(0, 2), (1, 3), (2, 4), (3, 6)], 4, 24, .agg #[.int .i64 0, .int .i64 0, .bool false, .int .u8 0]⟩ := ⟨by kernel_rfl, by kernel_rfl⟩
theorem tok9 : TI.ok Try.prog 9 ⟨.str, 1, 16, .string ⟨#[]⟩⟩ := ⟨by kernel_rfl, by kernel_rfl⟩
theorem tok10 : TI.ok Try.prog 10 ⟨.str, 1, 16, .string ⟨#[]⟩⟩ := ⟨by kernel_rfl, by kernel_rfl⟩
theorem tok11 : TI.ok Try.prog 11 ⟨.str, 1, 16, .string ⟨#[]⟩⟩ := ⟨by kernel_rfl, by kernel_rfl⟩
theorem tok12 : TI.ok Try.prog 12 ⟨.int .u64, 1, 8, .int .u64 0⟩ := ⟨by kernel_rfl, by kernel_rfl⟩
theorem tok13 : TI.ok Try.prog 13 ⟨.struct [(0, 9), (1, 12)], 2, 24, .agg #[.string ⟨#[]⟩, .int .u64 0]⟩ := ⟨by kernel_rfl, by kernel_rfl⟩
theorem tok14 : TI.ok Try.prog 14 ⟨.struct [(0, 9), (1, 12)], 2, 24, .agg #[.string ⟨#[]⟩, .int .u64 0]⟩ := ⟨by kernel_rfl, by kernel_rfl⟩
theorem tok15 : TI.ok Try.prog 15 ⟨.ptr 81, 1, 8, .pointer none⟩ := ⟨by kernel_rfl, by kernel_rfl⟩
theorem tok16 : TI.ok Try.prog 16 ⟨.ptr 84, 1, 8, .pointer none⟩ := ⟨by kernel_rfl, by kernel_rfl⟩
theorem tok17 : TI.ok Try.prog 17 ⟨.ptr 94, 1, 8, .pointer none⟩ := ⟨by kernel_rfl, by kernel_rfl⟩
theorem tok18 : TI.ok Try.prog 18 ⟨.struct [(0, 17)], 1, 8, .agg #[.pointer none]⟩ := ⟨by kernel_rfl, by kernel_rfl⟩
theorem tok19 : TI.ok Try.prog 19 ⟨.struct [(0, 17)], 1, 8, .agg #[.pointer none]⟩ := ⟨by kernel_rfl, by kernel_rfl⟩
theorem tok20 : TI.ok Try.prog 20 ⟨.iface, 1, 16, .nilIface⟩ := ⟨by kernel_rfl, by kernel_rfl⟩
theorem tok21 : TI.ok Try.prog 21 ⟨.int .i32, 1, 4, .int .i32 0⟩ := ⟨by kernel_rfl, by kernel_rfl⟩
theorem tok22 : TI.ok Try.prog 22 ⟨.slice 33, 1, 24, .slice none 0 0⟩ := ⟨by kernel_rfl, by kernel_rfl⟩
theorem tok23 : TI.ok Try.prog 23 ⟨.struct [(0, 3), (1, 3), (2, 22)], 3, 40, .agg #[.int .i64 0, .int .i64 0, .slice none 0 0]⟩ := ⟨by kernel_rfl, by kernel_rfl⟩
theorem tok24 : TI.ok Try.prog 24 ⟨.struct [(0, 3), (1, 3), (2, 22)], 3, 40, .agg #[.int .i64 0, .int .i64 0, .slice none 0 0]⟩ := ⟨by kernel_rfl, by kernel_rfl⟩
theorem tok25 : TI.ok Try.prog 25 ⟨.func, 1, 8, .nilFunc⟩ := ⟨by kernel_rfl, by kernel_rfl⟩
theorem tok26 : TI.ok Try.prog 26 ⟨.func, 1, 8, .nilFunc⟩ := ⟨by kernel_rfl, by kernel_rfl⟩
theorem tok27 : TI.ok Try.prog 27 ⟨.int .i64, 1, 8, .int .i64 0⟩ := ⟨by kernel_rfl, by kernel_rfl⟩
theorem tok28 : TI.ok Try.prog 28 ⟨.func, 1, 8, .nilFunc⟩ := ⟨by kernel_rfl, by kernel_rfl⟩
theorem tok29 : TI.ok Try.prog 29 ⟨.func, 1, 8, .nilFunc⟩ := ⟨by kernel_rfl, by kernel_rfl⟩
theorem tok31 : TI.ok Try.prog 31 ⟨.func, 1, 8, .nilFunc⟩ := ⟨by kernel_rfl, by kernel_rfl⟩
theorem tok32 : TI.ok Try.prog 32 ⟨.struct [(0, 3), (1, 3), (2, 3), (3, 3)], 4, 32, .agg #[.int .i64 0, .int .i64 0, .int .i64 0, .int .i64 0]⟩ := ⟨by kernel_rfl, by kernel_rfl⟩
theorem tok33 : TI.ok Try.prog 33 ⟨.struct [(0, 3), (1, 3), (2, 3), (3, 3)], 4, 32, .agg #[.int .i64 0, .int .i64 0, .int .i64 0, .int .i64 0]⟩ := ⟨by kernel_rfl, by kernel_rfl⟩
theorem tok34 : TI.ok Try.prog 34 ⟨.slice 3, 1, 24, .slice none 0 0⟩ := ⟨by kernel_rfl, by kernel_rfl⟩
theorem tok35 : TI.ok Try.prog 35 ⟨.func, 1, 8, .nilFunc⟩ := ⟨by kernel_rfl, by kernel_rfl⟩
theorem tok36 : TI.ok Try.prog 36 ⟨.func, 1, 8, .nilFunc⟩ := ⟨by kernel_rfl, by kernel_rfl⟩
theorem tok38 : TI.ok Try.prog 38 ⟨.func, 1, 8, .nilFunc⟩ := ⟨by kernel_rfl, by kernel_rfl⟩
theorem tok40 : TI.ok Try.prog 40 ⟨.func, 1, 8, .nilFunc⟩ := ⟨by kernel_rfl, by kernel_rfl⟩
theorem tok41 : TI.ok Try.prog 41 ⟨.func, 1, 8, .nilFunc⟩ := ⟨by kernel_rfl, by kernel_rfl⟩
theorem tok42 : TI.ok Try.prog 42 ⟨.func, 1, 8, .nilFunc⟩ := ⟨by kernel_rfl, by kernel_rfl⟩
theorem tok43 : TI.ok Try.prog 43 ⟨.func, 1, 8, .nilFunc⟩ := ⟨by kernel_rfl, by kernel_rfl⟩
theorem tok44 : TI.ok Try.prog 44 ⟨.slice 46, 1, 24, .slice none 0 0⟩ := ⟨by kernel_rfl, by kernel_rfl⟩
theorem tok45 : TI.ok Try.prog 45 ⟨.struct [(0, 3), (1, 3), (2, 3), (3, 3), (4, 3)], 5, 40, .agg #[.int .i64 0, .int .i64 0, .int .i64 0, .int .i64 0, .int .i64 0]⟩ := ⟨by kernel_rfl, by kernel_rfl⟩
theorem tok46 : TI.ok Try.prog 46 ⟨.struct [(0, 3), (1, 3), (2, 3), (3, 3), (4, 3)], 5, 40, .agg #[.int .i64 0, .int .i64 0, .int .i64 0, .int .i64 0, .int .i64 0]⟩ := ⟨by kernel_rfl, by kernel_rfl⟩
theorem tok47 : TI.ok Try.prog 47 ⟨.func, 1, 8, .nilFunc⟩ := ⟨by kernel_rfl, by kernel_rfl⟩
theorem tok49 : TI.ok Try.prog 49 ⟨.func, 1, 8, .nilFunc⟩ := ⟨by kernel_rfl, by kernel_rfl⟩
theorem tok50 : TI.ok Try.prog 50 ⟨.func, 1, 8, .nilFunc⟩ := ⟨by kernel_rfl, by kernel_rfl⟩
theorem tok51 : TI.ok Try.prog 51 ⟨.func, 1, 8, .nilFunc⟩ := ⟨by kernel_rfl, by kernel_rfl⟩
theorem tok52 : TI.ok Try.prog 52 ⟨.func, 1, 8, .nilFunc⟩ := ⟨by kernel_rfl, by kernel_rfl⟩
theorem tok53 : TI.ok Try.prog 53 ⟨.func, 1, 8, .nilFunc⟩ := ⟨by kernel_rfl, by kernel_rfl⟩
theorem tok54 : TI.ok Try.prog 54 ⟨.func, 1, 8, .nilFunc⟩ := ⟨by kernel_rfl, by kernel_rfl⟩
theorem tok55 : TI.ok Try.prog 55 ⟨.func, 1, 8, .nilFunc⟩ := ⟨by kernel_rfl, by kernel_rfl⟩
theorem tok56 : TI.ok Try.prog 56 ⟨.func, 1, 8, .nilFunc⟩ := ⟨by kernel_rfl, by kernel_rfl⟩
theorem tok57 : TI.ok Try.prog 57 ⟨.func, 1, 8, .nilFunc⟩ := ⟨by kernel_rfl, by kernel_rfl⟩
theorem tok58 : TI.ok Try.prog 58 ⟨.func, 1, 8, .nilFunc⟩ := ⟨by kernel_rfl, by kernel_rfl⟩
theorem tok59 : TI.ok Try.prog 59 ⟨.func, 1, 8, .nilFunc⟩ := ⟨by kernel_rfl, by kernel_rfl⟩
theorem tok60 : TI.ok Try.prog 60 ⟨.func, 1, 8, .nilFunc⟩ := ⟨by kernel_rfl, by kernel_rfl⟩
theorem tok61 : TI.ok Try.prog 61 ⟨.func, 1, 8, .nilFunc⟩ := ⟨by kernel_rfl, by kernel_rfl⟩
theorem tok62 : TI.ok Try.prog 62 ⟨.func, 1, 8, .nilFunc⟩ := ⟨by kernel_rfl, by kernel_rfl⟩
theorem tok63 : TI.ok Try.prog 63 ⟨.func, 1, 8, .nilFunc⟩ := ⟨by kernel_rfl, by kernel_rfl⟩
theorem tok65 : TI.ok Try.prog 65 ⟨.func, 1, 8, .nilFunc⟩ := ⟨by kernel_rfl, by kernel_rfl⟩
theorem tok66 : TI.ok Try.prog 66 ⟨.func, 1, 8, .nilFunc⟩ := ⟨by kernel_rfl, by kernel_rfl⟩
theorem tok67 : TI.ok Try.prog 67 ⟨.func, 1, 8, .nilFunc⟩ := ⟨by kernel_rfl, by kernel_rfl⟩
theorem tok68 : TI.ok Try.prog 68 ⟨.func, 1, 8, .nilFunc⟩ := ⟨by kernel_rfl, by kernel_rfl⟩
theorem tok69 : TI.ok Try.prog 69 ⟨.map 3 4, 1, 8, .map none⟩ := ⟨by kernel_rfl, by kernel_rfl⟩
theorem tok70 : TI.ok Try.prog 70 ⟨.func, 1, 8, .nilFunc⟩ := ⟨by kernel_rfl, by kernel_rfl⟩
theorem tok71 : TI.ok Try.prog 71 ⟨.func, 1, 8, .nilFunc⟩ := ⟨by kernel_rfl, by kernel_rfl⟩
theorem tok72 : TI.ok Try.prog 72 ⟨.func, 1, 8, .nilFunc⟩ := ⟨by kernel_rfl, by kernel_rfl⟩
theorem tok73 : TI.ok Try.prog 73 ⟨.func, 1, 8, .nilFunc⟩ := ⟨by kernel_rfl, by kernel_rfl⟩
theorem tok74 : TI.ok Try.prog 74 ⟨.func, 1, 8, .nilFunc⟩ := ⟨by kernel_rfl, by kernel_rfl⟩
theorem tok75 : TI.ok Try.prog 75 ⟨.func, 1, 8, .nilFunc⟩ := ⟨by kernel_rfl, by kernel_rfl⟩
theorem tok76 : TI.ok Try.prog 76 ⟨.func, 1, 8, .nilFunc⟩ := ⟨by kernel_rfl, by kernel_rfl⟩
theorem tok77 : TI.ok Try.prog 77 ⟨.int .u64, 1, 8, .int .u64 0⟩ := ⟨by kernel_rfl, by kernel_rfl⟩
theorem tok78 : TI.ok Try.prog 78 ⟨.func, 1, 8, .nilFunc⟩ := ⟨by kernel_rfl, by kernel_rfl⟩
theorem tok79 : TI.ok Try.prog 79 ⟨.func, 1, 8, .nilFunc⟩ := ⟨by kernel_rfl, by kernel_rfl⟩
theorem tok80 : TI.ok Try.prog 80 ⟨.struct [(0, 17), (1, 17), (2, 17), (3, 9)], 4, 40, .agg #[.pointer none, .pointer none, .pointer none, .string ⟨#[]⟩]⟩ := ⟨by kernel_rfl, by kernel_rfl⟩
theorem tok81 : TI.ok Try.prog 81 ⟨.struct [(0, 17), (1, 17), (2, 17), (3, 9)], 4, 40, .agg #[.pointer none, .pointer none, .pointer none, .string ⟨#[]⟩]⟩ := ⟨by kernel_rfl, by kernel_rfl⟩
theorem tok82 : TI.ok Try.prog 82 ⟨.arr 0 16, 0, 0, .agg #[]⟩ := ⟨by kernel_rfl, by kernel_rfl⟩
theorem tok83 : TI.ok Try.prog 83 ⟨.struct [(0, 82)], 0, 0, .agg #[]⟩ := ⟨by kernel_rfl, by kernel_rfl⟩
theorem tok84 : TI.ok Try.prog 84 ⟨.struct [(0, 82)], 0, 0, .agg #[]⟩ := ⟨by kernel_rfl, by kernel_rfl⟩
theorem tok85 : TI.ok Try.prog 85 ⟨.func, 1, 8, .nilFunc⟩ := ⟨by kernel_rfl, by kernel_rfl⟩
theorem tok86 : TI.ok Try.prog 86 ⟨.int .u32, 1, 4, .int .u32 0⟩ := ⟨by kernel_rfl, by kernel_rfl⟩
theorem tok87 : TI.ok Try.prog 87 ⟨.int .u8, 1, 1, .int .u8 0⟩ := ⟨by kernel_rfl, by kernel_rfl⟩
theorem tok88 : TI.ok Try.prog 88 ⟨.int .u8, 1, 1, .int .u8 0⟩ := ⟨by kernel_rfl, by kernel_rfl⟩
theorem tok89 : TI.ok Try.prog 89 ⟨.func, 1, 8, .nilFunc⟩ := ⟨by kernel_rfl, by kernel_rfl⟩
theorem tok90 : TI.ok Try.prog 90 ⟨.ptr 5, 1, 8, .pointer none⟩ := ⟨by kernel_rfl, by kernel_rfl⟩
theorem tok91 : TI.ok Try.prog 91 ⟨.int .i32, 1, 4, .int .i32 0⟩ := ⟨by kernel_rfl, by kernel_rfl⟩
theorem tok92 : TI.ok Try.prog 92 ⟨.int .i32, 1, 4, .int .i32 0⟩ := ⟨by kernel_rfl, by kernel_rfl⟩
theorem tok93 : TI.ok Try.prog 93 ⟨.struct [(0, 12), (1, 12), (2, 86), (3, 87), (4, 5), (5, 5), (6, 88), (7, 89), (8, 90), (9, 91), (10, 92)], 11, 48, .agg #[.int .u64 0, .int .u64 0, .int .u32 0, .int .u8 0, .int .u8 0, .int .u8 0, .int .u8 0, .nilFunc, .pointer none, .int .i32 0, .int .i32 0]⟩ := ⟨by kernel_rfl, by kernel_rfl⟩
theorem tok94 : TI.ok Try.prog 94 ⟨.struct [(0, 12), (1, 12), (2, 86), (3, 87), (4, 5), (5, 5), (6, 88), (7, 89), (8, 90), (9, 91), (10, 92)], 11, 48, .agg #[.int .u64 0, .int .u64 0, .int .u32 0, .int .u8 0, .int .u8 0, .int .u8 0, .int .u8 0, .nilFunc, .pointer none, .int .i32 0, .int .i32 0]⟩ := ⟨by kernel_rfl, by kernel_rfl⟩
def cfg3 : Cfg := { tt := [(24, ⟨.struct [(0, 3), (1, 3), (2, 22)], 3, 40, .agg #[.int .i64 0, .int .i64 0, .slice none 0 0]⟩), (44, ⟨.slice 46, 1, 24, .slice none 0 0⟩), (27, ⟨.int .i64, 1, 8, .int .i64 0⟩), (34, ⟨.slice 3, 1, 24, .slice none 0 0⟩), (22, ⟨.slice 33, 1, 24, .slice none 0 0⟩), (3, ⟨.int .i64, 1, 8, .int .i64 0⟩), (33, ⟨.struct [(0, 3), (1, 3), (2, 3), (3, 3)], 4, 32, .agg #[.int .i64 0, .int .i64 0, .int .i64 0, .int .i64 0]⟩), (46, ⟨.struct [(0, 3), (1, 3), (2, 3), (3, 3), (4, 3)], 5, 40, .agg #[.int .i64 0, .int .i64 0, .int .i64 0, .int .i64 0, .int .i64 0]⟩)], live := [0, 1, 2, 3, 4, 5, 6, 7, 8, 9, 10, 12, 13, 14, 23, 30, 39, 91, 92, 93, 94, 95, 101, 103, 104], dt := [], nw := true }
theorem cfg3_ok : TTok Try.prog cfg3.tt := (TTok.cons tok24 (TTok.cons tok44 (TTok.cons tok27 (TTok.cons tok34 (TTok.cons tok22 (TTok.cons tok3 (TTok.cons tok33 (TTok.cons tok46 TTok.nil))))))))
def cfg4 : Cfg := { tt := [(24, ⟨.struct [(0, 3), (1, 3), (2, 22)], 3, 40, .agg #[.int .i64 0, .int .i64 0, .slice none 0 0]⟩), (44, ⟨.slice 46, 1, 24, .slice none 0 0⟩), (27, ⟨.int .i64, 1, 8, .int .i64 0⟩), (3, ⟨.int .i64, 1, 8, .int .i64 0⟩), (33, ⟨.struct [(0, 3), (1, 3), (2, 3), (3, 3)], 4, 32, .agg #[.int .i64 0, .int .i64 0, .int .i64 0, .int .i64 0]⟩), (22, ⟨.slice 33, 1, 24, .slice none 0 0⟩), (46, ⟨.struct [(0, 3), (1, 3), (2, 3), (3, 3), (4, 3)], 5, 40, .agg #[.int .i64 0, .int .i64 0, .int .i64 0, .int .i64 0, .int .i64 0]⟩)], live := [0, 1, 2, 3, 4, 8, 9, 10, 11, 12, 13, 14, 15, 16, 17, 19, 21, 30, 42, 99], dt := [], nw := true }
theorem cfg4_ok : TTok Try.prog cfg4.tt := (TTok.cons tok24 (TTok.cons tok44 (TTok.cons tok27 (TTok.cons tok3 (TTok.cons tok33 (TTok.cons tok22 (TTok.cons tok46 TTok.nil)))))))
def cfg5 : Cfg := { tt := [(24, ⟨.struct [(0, 3), (1, 3), (2, 22)], 3, 40, .agg #[.int .i64 0, .int .i64 0, .slice none 0 0]⟩), (44, ⟨.slice 46, 1, 24, .slice none 0 0⟩), (3, ⟨.int .i64, 1, 8, .int .i64 0⟩), (46, ⟨.struct [(0, 3), (1, 3), (2, 3), (3, 3), (4, 3)], 5, 40, .agg #[.int .i64 0, .int .i64 0, .int .i64 0, .int .i64 0, .int .i64 0]⟩), (27, ⟨.int .i64, 1, 8, .int .i64 0⟩), (22, ⟨.slice 33, 1, 24, .slice none 0 0⟩), (33, ⟨.struct [(0, 3), (1, 3), (2, 3), (3, 3)], 4, 32, .agg #[.int .i64 0, .int .i64 0, .int .i64 0, .int .i64 0]⟩)], live := [0, 2, 3, 4, 5, 7, 8, 9, 10, 12, 17, 20, 21, 22, 23, 33, 43, 46, 75, 83, 103], dt := [(14, [(0, 0), (1, 0), (2, 0), (3, 0), (4, 0), (5, 0), (6, 0), (7, 0), (8, 0), (9, 0), (10, 0), (11, 0), (12, 0), (13, 0), (14, 0), (15, 0), (16, 0), (17, 0), (18, 0), (19, 0), (20, 0), (21, 0), (22, 0), (23, 0), (24, 0), (25, 0), (26, 0), (27, 0), (28, 0)])], nw := true }
theorem cfg5_ok : TTok Try.prog cfg5.tt := (TTok.cons tok24 (TTok.cons tok44 (TTok.cons tok3 (TTok.cons tok46 (TTok.cons tok27 (TTok.cons tok22 (TTok.cons tok33 TTok.nil)))))))
def cfg6 : Cfg := { tt := [(24, ⟨.struct [(0, 3), (1, 3), (2, 22)], 3, 40, .agg #[.int .i64 0, .int .i64 0, .slice none 0 0]⟩), (44, ⟨.slice 46, 1, 24, .slice none 0 0⟩), (3, ⟨.int .i64, 1, 8, .int .i64 0⟩), (33, ⟨.struct [(0, 3), (1, 3), (2, 3), (3, 3)], 4, 32, .agg #[.int .i64 0, .int .i64 0, .int .i64 0, .int .i64 0]⟩), (27, ⟨.int .i64, 1, 8, .int .i64 0⟩), (46, ⟨.struct [(0, 3), (1, 3), (2, 3), (3, 3), (4, 3)], 5, 40, .agg #[.int .i64 0, .int .i64 0, .int .i64 0, .int .i64 0, .int .i64 0]⟩), (22, ⟨.slice 33, 1, 24, .slice none 0 0⟩)], live := [0, 1, 4, 5, 6, 7, 8, 9, 11, 12, 13, 14, 15, 16, 17, 19, 28, 38, 41, 42, 43, 44, 54, 64, 71, 81, 82, 83, 84, 103, 118], dt := [], nw := true }
theorem cfg6_ok : TTok Try.prog cfg6.tt := (TTok.cons tok24 (TTok.cons tok44 (TTok.cons tok3 (TTok.cons tok33 (TTok.cons tok27 (TTok.cons tok46 (TTok.cons tok22 TTok.nil)))))))
def cfg7 : Cfg := { tt := [(24, ⟨.struct [(0, 3), (1, 3), (2, 22)], 3, 40, .agg #[.int .i64 0, .int .i64 0, .slice none 0 0]⟩), (46, ⟨.struct [(0, 3), (1, 3), (2, 3), (3, 3), (4, 3)], 5, 40, .agg #[.int .i64 0, .int .i64 0, .int .i64 0, .int .i64 0, .int .i64 0]⟩), (44, ⟨.slice 46, 1, 24, .slice none 0 0⟩), (27, ⟨.int .i64, 1, 8, .int .i64 0⟩), (3, ⟨.int .i64, 1, 8, .int .i64 0⟩), (33, ⟨.struct [(0, 3), (1, 3), (2, 3), (3, 3)], 4, 32, .agg #[.int .i64 0, .int .i64 0, .int .i64 0, .int .i64 0]⟩), (22, ⟨.slice 33, 1, 24, .slice none 0 0⟩), (4, ⟨.bool, 1, 1, .bool false⟩)], live := [0, 1, 2, 3, 4, 6, 7, 8, 9, 10, 12, 13, 14, 34, 50], dt := [], nw := true }
theorem cfg7_ok : TTok Try.prog cfg7.tt := (TTok.cons tok24 (TTok.cons tok46 (TTok.cons tok44 (TTok.cons tok27 (TTok.cons tok3 (TTok.cons tok33 (TTok.cons tok22 (TTok.cons tok4 TTok.nil))))))))
def cfg8 : Cfg := { tt := [(24, ⟨.struct [(0, 3), (1, 3), (2, 22)], 3, 40, .agg #[.int .i64 0, .int .i64 0, .slice none 0 0]⟩), (44, ⟨.slice 46, 1, 24, .slice none 0 0⟩), (34, ⟨.slice 3, 1, 24, .slice none 0 0⟩), (3, ⟨.int .i64, 1, 8, .int .i64 0⟩), (46, ⟨.struct [(0, 3), (1, 3), (2, 3), (3, 3), (4, 3)], 5, 40, .agg #[.int .i64 0, .int .i64 0, .int .i64 0, .int .i64 0, .int .i64 0]⟩), (22, ⟨.slice 33, 1, 24, .slice none 0 0⟩), (27, ⟨.int .i64, 1, 8, .int .i64 0⟩), (33, ⟨.struct [(0, 3), (1, 3), (2, 3), (3, 3)], 4, 32, .agg #[.int .i64 0, .int .i64 0, .int .i64 0, .int .i64 0]⟩)], live := [0, 1, 2, 3, 6, 7, 9, 10, 11, 12, 13, 14, 15, 16, 26, 28, 29, 30, 31, 41, 107, 109], dt := [(12, [(0, 0), (1, 0), (2, 1), (3, 0), (4, 0), (5, 0), (6, 0), (7, 1), (8, 0), (9, 0), (10, 0), (11, 0), (12, 0), (13, 1), (14, 0), (15, 0), (16, 0), (17, 1), (18, 1), (19, 0), (20, 0), (21, 0), (22, 0), (24, 0), (23, 1), (25, 1), (26, 1), (27, 0), (28, 0), (29, 0), (30, 0), (31, 0), (33, 0), (34, 0), (35, 0), (32, 1), (36, 1), (37, 1), (38, 0), (39, 0), (40, 0), (41, 0), (42, 0), (44, 0), (45, 0), (43, 1), (46, 1), (47, 1), (48, 0)])], nw := true }
theorem cfg8_ok : TTok Try.prog cfg8.tt := (TTok.cons tok24 (TTok.cons tok44 (TTok.cons tok34 (TTok.cons tok3 (TTok.cons tok46 (TTok.cons tok22 (TTok.cons tok27 (TTok.cons tok33 TTok.nil))))))))
def cfg9 : Cfg := { tt := [(24, ⟨.struct [(0, 3), (1, 3), (2, 22)], 3, 40, .agg #[.int .i64 0, .int .i64 0, .slice none 0 0]⟩), (3, ⟨.int .i64, 1, 8, .int .i64 0⟩), (33, ⟨.struct [(0, 3), (1, 3), (2, 3), (3, 3)], 4, 32, .agg #[.int .i64 0, .int .i64 0, .int .i64 0, .int .i64 0]⟩), (27, ⟨.int .i64, 1, 8, .int .i64 0⟩), (22, ⟨.slice 33, 1, 24, .slice none 0 0⟩)], live := [0, 1, 2, 3, 6, 7, 8, 9, 11, 12], dt := [], nw := true }
theorem cfg9_ok : TTok Try.prog cfg9.tt := (TTok.cons tok24 (TTok.cons tok3 (TTok.cons tok33 (TTok.cons tok27 (TTok.cons tok22 TTok.nil)))))
def cfg10 : Cfg := { tt := [(24, ⟨.struct [(0, 3), (1, 3), (2, 22)], 3, 40, .agg #[.int .i64 0, .int .i64 0, .slice none 0 0]⟩), (22, ⟨.slice 33, 1, 24, .slice none 0 0⟩), (3, ⟨.int .i64, 1, 8, .int .i64 0⟩), (44, ⟨.slice 46, 1, 24, .slice none 0 0⟩), (33, ⟨.struct [(0, 3), (1, 3), (2, 3), (3, 3)], 4, 32, .agg #[.int .i64 0, .int .i64 0, .int .i64 0, .int .i64 0]⟩), (46, ⟨.struct [(0, 3), (1, 3), (2, 3), (3, 3), (4, 3)], 5, 40, .agg #[.int .i64 0, .int .i64 0, .int .i64 0, .int .i64 0, .int .i64 0]⟩)], live := [0, 1, 2, 4], dt := [], nw := true }
theorem cfg10_ok : TTok Try.prog cfg10.tt := (TTok.cons tok24 (TTok.cons tok22 (TTok.cons tok3 (TTok.cons tok44 (TTok.cons tok33 (TTok.cons tok46 TTok.nil))))))
def cfg11 : Cfg := { tt := [(24, ⟨.struct [(0, 3), (1, 3), (2, 22)], 3, 40, .agg #[.int .i64 0, .int .i64 0, .slice none 0 0]⟩), (3, ⟨.int .i64, 1, 8, .int .i64 0⟩), (22, ⟨.slice 33, 1, 24, .slice none 0 0⟩), (33, ⟨.struct [(0, 3), (1, 3), (2, 3), (3, 3)], 4, 32, .agg #[.int .i64 0, .int .i64 0, .int .i64 0, .int .i64 0]⟩)], live := [0, 1, 2, 3, 4, 6, 14, 16, 17, 18, 19, 54, 58, 59, 60, 61, 75], dt := [], nw := true }
theorem cfg11_ok : TTok Try.prog cfg11.tt := (TTok.cons tok24 (TTok.cons tok3 (TTok.cons tok22 (TTok.cons tok33 TTok.nil))))
def cfg12 : Cfg := { tt := [(24, ⟨.struct [(0, 3), (1, 3), (2, 22)], 3, 40, .agg #[.int .i64 0, .int .i64 0, .slice none 0 0]⟩), (34, ⟨.slice 3, 1, 24, .slice none 0 0⟩), (59, ⟨.func, 1, 8, .nilFunc⟩), (22, ⟨.slice 33, 1, 24, .slice none 0 0⟩), (3, ⟨.int .i64, 1, 8, .int .i64 0⟩), (62, ⟨.func, 1, 8, .nilFunc⟩), (33, ⟨.struct [(0, 3), (1, 3), (2, 3), (3, 3)], 4, 32, .agg #[.int .i64 0, .int .i64 0, .int .i64 0, .int .i64 0]⟩)], live := [0, 1, 2, 3, 4, 5, 11], dt := [], nw := true }
theorem cfg12_ok : TTok Try.prog cfg12.tt := (TTok.cons tok24 (TTok.cons tok34 (TTok.cons tok59 (TTok.cons tok22 (TTok.cons tok3 (TTok.cons tok62 (TTok.cons tok33 TTok.nil)))))))
def cfg13 : Cfg := { tt := [(24, ⟨.struct [(0, 3), (1, 3), (2, 22)], 3, 40, .agg #[.int .i64 0, .int .i64 0, .slice none 0 0]⟩), (3, ⟨.int .i64, 1, 8, .int .i64 0⟩), (27, ⟨.int .i64, 1, 8, .int .i64 0⟩), (59, ⟨.func, 1, 8, .nilFunc⟩), (22, ⟨.slice 33, 1, 24, .slice none 0 0⟩), (33, ⟨.struct [(0, 3), (1, 3), (2, 3), (3, 3)], 4, 32, .agg #[.int .i64 0, .int .i64 0, .int .i64 0, .int .i64 0]⟩)], live := [0, 1, 2, 3, 4, 5, 6, 7, 8, 17, 24], dt := [], nw := true }
theorem cfg13_ok : TTok Try.prog cfg13.tt := (TTok.cons tok24 (TTok.cons tok3 (TTok.cons tok27 (TTok.cons tok59 (TTok.cons tok22 (TTok.cons tok33 TTok.nil))))))
def cfg14 : Cfg := { tt := [(24, ⟨.struct [(0, 3), (1, 3), (2, 22)], 3, 40, .agg #[.int .i64 0, .int .i64 0, .slice none 0 0]⟩), (3, ⟨.int .i64, 1, 8, .int .i64 0⟩), (59, ⟨.func, 1, 8, .nilFunc⟩), (22, ⟨.slice 33, 1, 24, .slice none 0 0⟩), (33, ⟨.struct [(0, 3), (1, 3), (2, 3), (3, 3)], 4, 32, .agg #[.int .i64 0, .int .i64 0, .int .i64 0, .int .i64 0]⟩), (34, ⟨.slice 3, 1, 24, .slice none 0 0⟩)], live := [0, 1, 2, 3, 4, 5, 7, 10, 11, 12, 13], dt := [], nw := true }
theorem cfg14_ok : TTok Try.prog cfg14.tt := (TTok.cons tok24 (TTok.cons tok3 (TTok.cons tok59 (TTok.cons tok22 (TTok.cons tok33 (TTok.cons tok34 TTok.nil))))))
def cfg15 : Cfg := { tt := [(24, ⟨.struct [(0, 3), (1, 3), (2, 22)], 3, 40, .agg #[.int .i64 0, .int .i64 0, .slice none 0 0]⟩), (33, ⟨.struct [(0, 3), (1, 3), (2, 3), (3, 3)], 4, 32, .agg #[.int .i64 0, .int .i64 0, .int .i64 0, .int .i64 0]⟩), (3, ⟨.int .i64, 1, 8, .int .i64 0⟩), (22, ⟨.slice 33, 1, 24, .slice none 0 0⟩)], live := [0, 1, 2, 3, 4, 8, 9, 10, 11, 12, 13, 24, 29, 33, 38], dt := [(8, [(0, 0), (1, 0), (3, 0), (4, 0), (5, 1000000), (2, 1), (5, 1), (6, 1), (7, 0), (8, 3), (5, 1), (2, 1), (6, 1), (7, 0), (8, 3)]), (9, [(0, 8), (1, 17), (2, 3), (3, 3), (4, 2)])], nw := true }
theorem cfg15_ok : TTok Try.prog cfg15.tt := (TTok.cons tok24 (TTok.cons tok33 (TTok.cons tok3 (TTok.cons tok22 TTok.nil))))
def cfg16 : Cfg := { tt := [(24, ⟨.struct [(0, 3), (1, 3), (2, 22)], 3, 40, .agg #[.int .i64 0, .int .i64 0, .slice none 0 0]⟩), (27, ⟨.int .i64, 1, 8, .int .i64 0⟩), (3, ⟨.int .i64, 1, 8, .int .i64 0⟩), (22, ⟨.slice 33, 1, 24, .slice none 0 0⟩), (33, ⟨.struct [(0, 3), (1, 3), (2, 3), (3, 3)], 4, 32, .agg #[.int .i64 0, .int .i64 0, .int .i64 0, .int .i64 0]⟩)], live := [0, 1, 2, 4, 5, 6, 7, 10, 19, 24], dt := [], nw := true }
theorem cfg16_ok : TTok Try.prog cfg16.tt := (TTok.cons tok24 (TTok.cons tok27 (TTok.cons tok3 (TTok.cons tok22 (TTok.cons tok33 TTok.nil)))))
def cfg17 : Cfg := { tt := [(24, ⟨.struct [(0, 3), (1, 3), (2, 22)], 3, 40, .agg #[.int .i64 0, .int .i64 0, .slice none 0 0]⟩), (3, ⟨.int .i64, 1, 8, .int .i64 0⟩), (22, ⟨.slice 33, 1, 24, .slice none 0 0⟩), (33, ⟨.struct [(0, 3), (1, 3), (2, 3), (3, 3)], 4, 32, .agg #[.int .i64 0, .int .i64 0, .int .i64 0, .int .i64 0]⟩)], live := [0, 1, 2, 3, 4, 5, 10, 11, 12, 13, 17, 24, 25, 29], dt := [(10, [(0, 0), (1, 0), (2, 0), (3, 0), (4, 0), (5, 0), (6, 0), (7, 0), (8, 0), (9, 0), (10, 0), (11, 0), (12, 0), (13, 0), (14, 0), (15, 0), (16, 3)])], nw := true }
theorem cfg17_ok : TTok Try.prog cfg17.tt := (TTok.cons tok24 (TTok.cons tok3 (TTok.cons tok22 (TTok.cons tok33 TTok.nil))))
def cfg18 : Cfg := { tt := [(22, ⟨.slice 33, 1, 24, .slice none 0 0⟩), (3, ⟨.int .i64, 1, 8, .int .i64 0⟩), (33, ⟨.struct [(0, 3), (1, 3), (2, 3), (3, 3)], 4, 32, .agg #[.int .i64 0, .int .i64 0, .int .i64 0, .int .i64 0]⟩)], live := [0, 1, 4, 5, 10, 12, 13, 14, 24], dt := [(6, [(0, 0), (1, 0), (2, 0), (3, 0), (4, 0), (5, 0), (6, 0), (7, 0), (8, 0)])], nw := true }
theorem cfg18_ok : TTok Try.prog cfg18.tt := (TTok.cons tok22 (TTok.cons tok3 (TTok.cons tok33 TTok.nil)))
def cfg19 : Cfg := { tt := [(24, ⟨.struct [(0, 3), (1, 3), (2, 22)], 3, 40, .agg #[.int .i64 0, .int .i64 0, .slice none 0 0]⟩), (46, ⟨.struct [(0, 3), (1, 3), (2, 3), (3, 3), (4, 3)], 5, 40, .agg #[.int .i64 0, .int .i64 0, .int .i64 0, .int .i64 0, .int .i64 0]⟩), (3, ⟨.int .i64, 1, 8, .int .i64 0⟩), (33, ⟨.struct [(0, 3), (1, 3), (2, 3), (3, 3)], 4, 32, .agg #[.int .i64 0, .int .i64 0, .int .i64 0, .int .i64 0]⟩), (22, ⟨.slice 33, 1, 24, .slice none 0 0⟩)], live := [0, 1, 2, 3, 4, 5, 6, 7, 8, 9, 10, 11, 12, 13, 14, 15, 17, 18, 24, 27, 45, 62, 81], dt := [(6, [(3, 2), (0, 11), (1, 12), (4, 1000000), (2, 3), (4, 3), (5, 2), (6, 2), (4, 3), (2, 3), (5, 2), (6, 2)]), (16, [(0, 6), (1, 18), (4, 1000000), (2, 3), (3, 3), (4, 2), (5, 2), (3, 3), (2, 3), (4, 2), (5, 2)])], nw := true }
theorem cfg19_ok : TTok Try.prog cfg19.tt := (TTok.cons tok24 (TTok.cons tok46 (TTok.cons tok3 (TTok.cons tok33 (TTok.cons tok22 TTok.nil)))))
def cfg20 : Cfg := { tt := [(24, ⟨.struct [(0, 3), (1, 3), (2, 22)], 3, 40, .agg #[.int .i64 0, .int .i64 0, .slice none 0 0]⟩), (33, ⟨.struct [(0, 3), (1, 3), (2, 3), (3, 3)], 4, 32, .agg #[.int .i64 0, .int .i64 0, .int .i64 0, .int .i64 0]⟩), (27, ⟨.int .i64, 1, 8, .int .i64 0⟩), (22, ⟨.slice 33, 1, 24, .slice none 0 0⟩), (3, ⟨.int .i64, 1, 8, .int .i64 0⟩)], live := [0, 1, 2, 4, 5, 7, 10, 13, 14, 15, 16, 22, 33], dt := [], nw := true }
theorem cfg20_ok : TTok Try.prog cfg20.tt := (TTok.cons tok24 (TTok.cons tok33 (TTok.cons tok27 (TTok.cons tok22 (TTok.cons tok3 TTok.nil)))))
def cfg21 : Cfg := { tt := [(24, ⟨.struct [(0, 3), (1, 3), (2, 22)], 3, 40, .agg #[.int .i64 0, .int .i64 0, .slice none 0 0]⟩), (33, ⟨.struct [(0, 3), (1, 3), (2, 3), (3, 3)], 4, 32, .agg #[.int .i64 0, .int .i64 0, .int .i64 0, .int .i64 0]⟩), (3, ⟨.int .i64, 1, 8, .int .i64 0⟩), (27, ⟨.int .i64, 1, 8, .int .i64 0⟩), (22, ⟨.slice 33, 1, 24, .slice none 0 0⟩)], live := [0, 1, 2, 4, 5, 6, 7, 20, 33], dt := [], nw := true }
theorem cfg21_ok : TTok Try.prog cfg21.tt := (TTok.cons tok24 (TTok.cons tok33 (TTok.cons tok3 (TTok.cons tok27 (TTok.cons tok22 TTok.nil)))))
def cfg22 : Cfg := { tt := [(24, ⟨.struct [(0, 3), (1, 3), (2, 22)], 3, 40, .agg #[.int .i64 0, .int .i64 0, .slice none 0 0]⟩), (22, ⟨.slice 33, 1, 24, .slice none 0 0⟩), (3, ⟨.int .i64, 1, 8, .int .i64 0⟩), (33, ⟨.struct [(0, 3), (1, 3), (2, 3), (3, 3)], 4, 32, .agg #[.int .i64 0, .int .i64 0, .int .i64 0, .int .i64 0]⟩)], live := [0, 1, 2, 24], dt := [], nw := true }
theorem cfg22_ok : TTok Try.prog cfg22.tt := (TTok.cons tok24 (TTok.cons tok22 (TTok.cons tok3 (TTok.cons tok33 TTok.nil))))
def cfg23 : Cfg := { tt := [(24, ⟨.struct [(0, 3), (1, 3), (2, 22)], 3, 40, .agg #[.int .i64 0, .int .i64 0, .slice none 0 0]⟩), (46, ⟨.struct [(0, 3), (1, 3), (2, 3), (3, 3), (4, 3)], 5, 40, .agg #[.int .i64 0, .int .i64 0, .int .i64 0, .int .i64 0, .int .i64 0]⟩), (3, ⟨.int .i64, 1, 8, .int .i64 0⟩), (33, ⟨.struct [(0, 3), (1, 3), (2, 3), (3, 3)], 4, 32, .agg #[.int .i64 0, .int .i64 0, .int .i64 0, .int .i64 0]⟩), (22, ⟨.slice 33, 1, 24, .slice none 0 0⟩)], live := [0, 1, 2, 3, 4, 5, 6, 7, 8, 9, 10, 11, 12, 13, 14, 15, 17, 18, 24, 27, 45, 62, 81], dt := [(6, [(3, 2), (0, 11), (1, 12), (4, 1000000), (2, 3), (4, 3), (5, 2), (6, 2), (4, 3), (2, 3), (5, 2), (6, 2)]), (16, [(0, 6), (1, 18), (4, 1000000), (2, 3), (3, 3), (4, 2), (5, 2), (3, 3), (2, 3), (4, 2), (5, 2)])], nw := true }
theorem cfg23_ok : TTok Try.prog cfg23.tt := (TTok.cons tok24 (TTok.cons tok46 (TTok.cons tok3 (TTok.cons tok33 (TTok.cons tok22 TTok.nil)))))
def cfg24 : Cfg := { tt := [(24, ⟨.struct [(0, 3), (1, 3), (2, 22)], 3, 40, .agg #[.int .i64 0, .int .i64 0, .slice none 0 0]⟩), (3, ⟨.int .i64, 1, 8, .int .i64 0⟩), (22, ⟨.slice 33, 1, 24, .slice none 0 0⟩), (33, ⟨.struct [(0, 3), (1, 3), (2, 3), (3, 3)], 4, 32, .agg #[.int .i64 0, .int .i64 0, .int .i64 0, .int .i64 0]⟩)], live := [0, 1, 2, 3, 4], dt := [], nw := true }
theorem cfg24_ok : TTok Try.prog cfg24.tt := (TTok.cons tok24 (TTok.cons tok3 (TTok.cons tok22 (TTok.cons tok33 TTok.nil))))
def cfg25 : Cfg := { tt := [(24, ⟨.struct [(0, 3), (1, 3), (2, 22)], 3, 40, .agg #[.int .i64 0, .int .i64 0, .slice none 0 0]⟩), (69, ⟨.map 3 4, 1, 8, .map none⟩), (22, ⟨.slice 33, 1, 24, .slice none 0 0⟩), (3, ⟨.int .i64, 1, 8, .int .i64 0⟩), (33, ⟨.struct [(0, 3), (1, 3), (2, 3), (3, 3)], 4, 32, .agg #[.int .i64 0, .int .i64 0, .int .i64 0, .int .i64 0]⟩), (4, ⟨.bool, 1, 1, .bool false⟩)], live := [0, 1, 2, 3, 4, 6, 7, 10, 11, 12, 13, 57, 71], dt := [], nw := true }
theorem cfg25_ok : TTok Try.prog cfg25.tt := (TTok.cons tok24 (TTok.cons tok69 (TTok.cons tok22 (TTok.cons tok3 (TTok.cons tok33 (TTok.cons tok4 TTok.nil))))))
def cfg26 : Cfg := { tt := [(34, ⟨.slice 3, 1, 24, .slice none 0 0⟩), (3, ⟨.int .i64, 1, 8, .int .i64 0⟩)], live := [0, 1, 4, 5, 10, 12, 13, 14, 24], dt := [(6, [(0, 0), (1, 0), (2, 0), (3, 0), (4, 0), (5, 0), (6, 0), (7, 0), (8, 0)])], nw := true }
theorem cfg26_ok : TTok Try.prog cfg26.tt := (TTok.cons tok34 (TTok.cons tok3 TTok.nil))
def cfg27 : Cfg := { tt := [(24, ⟨.struct [(0, 3), (1, 3), (2, 22)], 3, 40, .agg #[.int .i64 0, .int .i64 0, .slice none 0 0]⟩), (27, ⟨.int .i64, 1, 8, .int .i64 0⟩), (22, ⟨.slice 33, 1, 24, .slice none 0 0⟩), (3, ⟨.int .i64, 1, 8, .int .i64 0⟩), (33, ⟨.struct [(0, 3), (1, 3), (2, 3), (3, 3)], 4, 32, .agg #[.int .i64 0, .int .i64 0, .int .i64 0, .int .i64 0]⟩), (34, ⟨.slice 3, 1, 24, .slice none 0 0⟩)], live := [0, 1, 2, 4, 5, 7, 10, 12, 13, 14, 15, 21], dt := [], nw := true }
theorem cfg27_ok : TTok Try.prog cfg27.tt := (TTok.cons tok24 (TTok.cons tok27 (TTok.cons tok22 (TTok.cons tok3 (TTok.cons tok33 (TTok.cons tok34 TTok.nil))))))
def cfg28 : Cfg := { tt := [(24, ⟨.struct [(0, 3), (1, 3), (2, 22)], 3, 40, .agg #[.int .i64 0, .int .i64 0, .slice none 0 0]⟩), (27, ⟨.int .i64, 1, 8, .int .i64 0⟩), (22, ⟨.slice 33, 1, 24, .slice none 0 0⟩), (3, ⟨.int .i64, 1, 8, .int .i64 0⟩), (33, ⟨.struct [(0, 3), (1, 3), (2, 3), (3, 3)], 4, 32, .agg #[.int .i64 0, .int .i64 0, .int .i64 0, .int .i64 0]⟩), (34, ⟨.slice 3, 1, 24, .slice none 0 0⟩)], live := [0, 1, 2, 4, 5, 7, 10, 12, 13, 14, 15, 36], dt := [], nw := true }
theorem cfg28_ok : TTok Try.prog cfg28.tt := (TTok.cons tok24 (TTok.cons tok27 (TTok.cons tok22 (TTok.cons tok3 (TTok.cons tok33 (TTok.cons tok34 TTok.nil))))))
def cfg29 : Cfg := { tt := [(24, ⟨.struct [(0, 3), (1, 3), (2, 22)], 3, 40, .agg #[.int .i64 0, .int .i64 0, .slice none 0 0]⟩), (3, ⟨.int .i64, 1, 8, .int .i64 0⟩), (22, ⟨.slice 33, 1, 24, .slice none 0 0⟩), (33, ⟨.struct [(0, 3), (1, 3), (2, 3), (3, 3)], 4, 32, .agg #[.int .i64 0, .int .i64 0, .int .i64 0, .int .i64 0]⟩)], live := [0, 1, 2], dt := [], nw := true }
theorem cfg29_ok : TTok Try.prog cfg29.tt := (TTok.cons tok24 (TTok.cons tok3 (TTok.cons tok22 (TTok.cons tok33 TTok.nil))))
def cfg30 : Cfg := { tt := [(24, ⟨.struct [(0, 3), (1, 3), (2, 22)], 3, 40, .agg #[.int .i64 0, .int .i64 0, .slice none 0 0]⟩), (59, ⟨.func, 1, 8, .nilFunc⟩), (27, ⟨.int .i64, 1, 8, .int .i64 0⟩), (22, ⟨.slice 33, 1, 24, .slice none 0 0⟩), (3, ⟨.int .i64, 1, 8, .int .i64 0⟩), (33, ⟨.struct [(0, 3), (1, 3), (2, 3), (3, 3)], 4, 32, .agg #[.int .i64 0, .int .i64 0, .int .i64 0, .int .i64 0]⟩)], live := [0, 1, 2, 3, 4, 7], dt := [], nw := true }
theorem cfg30_ok : TTok Try.prog cfg30.tt := (TTok.cons tok24 (TTok.cons tok59 (TTok.cons tok27 (TTok.cons tok22 (TTok.cons tok3 (TTok.cons tok33 TTok.nil))))))
def cfg31 : Cfg := { tt := [(33, ⟨.struct [(0, 3), (1, 3), (2, 3), (3, 3)], 4, 32, .agg #[.int .i64 0, .int .i64 0, .int .i64 0, .int .i64 0]⟩), (34, ⟨.slice 3, 1, 24, .slice none 0 0⟩), (3, ⟨.int .i64, 1, 8, .int .i64 0⟩)], live := [0, 1, 2, 3], dt := [], nw := true }
theorem cfg31_ok : TTok Try.prog cfg31.tt := (TTok.cons tok33 (TTok.cons tok34 (TTok.cons tok3 TTok.nil)))
def cfg32 : Cfg := { tt := [(34, ⟨.slice 3, 1, 24, .slice none 0 0⟩), (3, ⟨.int .i64, 1, 8, .int .i64 0⟩)], live := [0, 1, 4], dt := [], nw := true }
theorem cfg32_ok : TTok Try.prog cfg32.tt := (TTok.cons tok34 (TTok.cons tok3 TTok.nil))
def cfg33 : Cfg := { tt := [(33, ⟨.struct [(0, 3), (1, 3), (2, 3), (3, 3)], 4, 32, .agg #[.int .i64 0, .int .i64 0, .int .i64 0, .int .i64 0]⟩), (22, ⟨.slice 33, 1, 24, .slice none 0 0⟩), (3, ⟨.int .i64, 1, 8, .int .i64 0⟩), (9, ⟨.str, 1, 16, .string ⟨#[]⟩⟩)], live := [0, 1, 4, 5, 6, 9, 17, 27, 33], dt := [(7, [(0, 0), (1, 0), (2, 0), (3, 0), (4, 0), (5, 0), (6, 1), (7, 0)])], nw := true }
theorem cfg33_ok : TTok Try.prog cfg33.tt := (TTok.cons tok33 (TTok.cons tok22 (TTok.cons tok3 (TTok.cons tok9 TTok.nil))))
def cfg34 : Cfg := { tt := [(33, ⟨.struct [(0, 3), (1, 3), (2, 3), (3, 3)], 4, 32, .agg #[.int .i64 0, .int .i64 0, .int .i64 0, .int .i64 0]⟩), (3, ⟨.int .i64, 1, 8, .int .i64 0⟩)], live := [0, 1, 2, 3, 4], dt := [], nw := true }
theorem cfg34_ok : TTok Try.prog cfg34.tt := (TTok.cons tok33 (TTok.cons tok3 TTok.nil))
def cfg35 : Cfg := { tt := [(3, ⟨.int .i64, 1, 8, .int .i64 0⟩)], live := [0, 1, 4, 5, 6, 11, 12, 13, 16, 19], dt := [], nw := true }
theorem cfg35_ok : TTok Try.prog cfg35.tt := (TTok.cons tok3 TTok.nil)
def cfg36 : Cfg := { tt := [(33, ⟨.struct [(0, 3), (1, 3), (2, 3), (3, 3)], 4, 32, .agg #[.int .i64 0, .int .i64 0, .int .i64 0, .int .i64 0]⟩), (3, ⟨.int .i64, 1, 8, .int .i64 0⟩)], live := [0, 1, 2, 3], dt := [], nw := true }
theorem cfg36_ok : TTok Try.prog cfg36.tt := (TTok.cons tok33 (TTok.cons tok3 TTok.nil))
def cfg37 : Cfg := { tt := [(33, ⟨.struct [(0, 3), (1, 3), (2, 3), (3, 3)], 4, 32, .agg #[.int .i64 0, .int .i64 0, .int .i64 0, .int .i64 0]⟩), (3, ⟨.int .i64, 1, 8, .int .i64 0⟩)], live := [0, 1, 2, 3], dt := [], nw := true }
theorem cfg37_ok : TTok Try.prog cfg37.tt := (TTok.cons tok33 (TTok.cons tok3 TTok.nil))
def cfg38 : Cfg := { tt := [(33, ⟨.struct [(0, 3), (1, 3), (2, 3), (3, 3)], 4, 32, .agg #[.int .i64 0, .int .i64 0, .int .i64 0, .int .i64 0]⟩), (3, ⟨.int .i64, 1, 8, .int .i64 0⟩)], live := [0, 1, 2, 3], dt := [], nw := true }
theorem cfg38_ok : TTok Try.prog cfg38.tt := (TTok.cons tok33 (TTok.cons tok3 TTok.nil))
def cfg39 : Cfg := { tt := [(24, ⟨.struct [(0, 3), (1, 3), (2, 22)], 3, 40, .agg #[.int .i64 0, .int .i64 0, .slice none 0 0]⟩), (3, ⟨.int .i64, 1, 8, .int .i64 0⟩), (27, ⟨.int .i64, 1, 8, .int .i64 0⟩), (22, ⟨.slice 33, 1, 24, .slice none 0 0⟩), (33, ⟨.struct [(0, 3), (1, 3), (2, 3), (3, 3)], 4, 32, .agg #[.int .i64 0, .int .i64 0, .int .i64 0, .int .i64 0]⟩)], live := [0, 1, 2, 4], dt := [], nw := true }
theorem cfg39_ok : TTok Try.prog cfg39.tt := (TTok.cons tok24 (TTok.cons tok3 (TTok.cons tok27 (TTok.cons tok22 (TTok.cons tok33 TTok.nil)))))
def cfg40 : Cfg := { tt := [(24, ⟨.struct [(0, 3), (1, 3), (2, 22)], 3, 40, .agg #[.int .i64 0, .int .i64 0, .slice none 0 0]⟩), (22, ⟨.slice 33, 1, 24, .slice none 0 0⟩), (3, ⟨.int .i64, 1, 8, .int .i64 0⟩), (74, ⟨.func, 1, 8, .nilFunc⟩), (33, ⟨.struct [(0, 3), (1, 3), (2, 3), (3, 3)], 4, 32, .agg #[.int .i64 0, .int .i64 0, .int .i64 0, .int .i64 0]⟩)], live := [0, 1, 2, 4, 5], dt := [], nw := true }
theorem cfg40_ok : TTok Try.prog cfg40.tt := (TTok.cons tok24 (TTok.cons tok22 (TTok.cons tok3 (TTok.cons tok74 (TTok.cons tok33 TTok.nil)))))
def cfg41 : Cfg := { tt := [(22, ⟨.slice 33, 1, 24, .slice none 0 0⟩), (3, ⟨.int .i64, 1, 8, .int .i64 0⟩), (33, ⟨.struct [(0, 3), (1, 3), (2, 3), (3, 3)], 4, 32, .agg #[.int .i64 0, .int .i64 0, .int .i64 0, .int .i64 0]⟩)], live := [0, 1, 2, 6, 7, 8, 9, 16, 22, 31, 68], dt := [(11, [(0, 0), (1, 0), (2, 0), (3, 0), (4, 0), (5, 0), (6, 0), (7, 0), (8, 3)]), (15, [(0, 0), (1, 0), (2, 0), (3, 0), (4, 0), (5, 0), (6, 0), (7, 0), (8, 3)])], nw := true }
theorem cfg41_ok : TTok Try.prog cfg41.tt := (TTok.cons tok22 (TTok.cons tok3 (TTok.cons tok33 TTok.nil)))
def cfg42 : Cfg := { tt := [(22, ⟨.slice 33, 1, 24, .slice none 0 0⟩), (33, ⟨.struct [(0, 3), (1, 3), (2, 3), (3, 3)], 4, 32, .agg #[.int .i64 0, .int .i64 0, .int .i64 0, .int .i64 0]⟩), (3, ⟨.int .i64, 1, 8, .int .i64 0⟩)], live := [0, 2, 4], dt := [], nw := true }
theorem cfg42_ok : TTok Try.prog cfg42.tt := (TTok.cons tok22 (TTok.cons tok33 (TTok.cons tok3 TTok.nil)))
def cfg43 : Cfg := { tt := [(22, ⟨.slice 33, 1, 24, .slice none 0 0⟩), (3, ⟨.int .i64, 1, 8, .int .i64 0⟩), (33, ⟨.struct [(0, 3), (1, 3), (2, 3), (3, 3)], 4, 32, .agg #[.int .i64 0, .int .i64 0, .int .i64 0, .int .i64 0]⟩)], live := [0, 1, 2, 6, 7, 16], dt := [(5, [(0, 0), (1, 0), (2, 0), (3, 0), (4, 0), (5, 0), (6, 3), (7, 2)])], nw := true }
theorem cfg43_ok : TTok Try.prog cfg43.tt := (TTok.cons tok22 (TTok.cons tok3 (TTok.cons tok33 TTok.nil)))
def cfg44 : Cfg := { tt := [(24, ⟨.struct [(0, 3), (1, 3), (2, 22)], 3, 40, .agg #[.int .i64 0, .int .i64 0, .slice none 0 0]⟩), (27, ⟨.int .i64, 1, 8, .int .i64 0⟩), (3, ⟨.int .i64, 1, 8, .int .i64 0⟩), (22, ⟨.slice 33, 1, 24, .slice none 0 0⟩), (33, ⟨.struct [(0, 3), (1, 3), (2, 3), (3, 3)], 4, 32, .agg #[.int .i64 0, .int .i64 0, .int .i64 0, .int .i64 0]⟩)], live := [0, 1, 2, 4, 5, 6, 7, 8, 10, 19, 24, 26, 27, 28, 29, 35], dt := [], nw := true }
theorem cfg44_ok : TTok Try.prog cfg44.tt := (TTok.cons tok24 (TTok.cons tok27 (TTok.cons tok3 (TTok.cons tok22 (TTok.cons tok33 TTok.nil)))))
def cfg45 : Cfg := { tt := [(24, ⟨.struct [(0, 3), (1, 3), (2, 22)], 3, 40, .agg #[.int .i64 0, .int .i64 0, .slice none 0 0]⟩), (33, ⟨.struct [(0, 3), (1, 3), (2, 3), (3, 3)], 4, 32, .agg #[.int .i64 0, .int .i64 0, .int .i64 0, .int .i64 0]⟩), (27, ⟨.int .i64, 1, 8, .int .i64 0⟩), (3, ⟨.int .i64, 1, 8, .int .i64 0⟩), (22, ⟨.slice 33, 1, 24, .slice none 0 0⟩)], live := [0, 1, 2, 3, 4, 8, 9, 10, 12, 13, 14, 16, 18, 24, 33, 41, 50, 70, 71, 72, 73, 79, 94, 95, 96, 97, 103], dt := [(21, [(0, 18), (1, 17), (2, 3), (3, 3), (4, 2)])], nw := true }
theorem cfg45_ok : TTok Try.prog cfg45.tt := (TTok.cons tok24 (TTok.cons tok33 (TTok.cons tok27 (TTok.cons tok3 (TTok.cons tok22 TTok.nil)))))
def cfg46 : Cfg := { tt := [(24, ⟨.struct [(0, 3), (1, 3), (2, 22)], 3, 40, .agg #[.int .i64 0, .int .i64 0, .slice none 0 0]⟩), (27, ⟨.int .i64, 1, 8, .int .i64 0⟩), (3, ⟨.int .i64, 1, 8, .int .i64 0⟩), (33, ⟨.struct [(0, 3), (1, 3), (2, 3), (3, 3)], 4, 32, .agg #[.int .i64 0, .int .i64 0, .int .i64 0, .int .i64 0]⟩), (22, ⟨.slice 33, 1, 24, .slice none 0 0⟩)], live := [0, 1, 2, 3, 4, 5, 10, 11, 12, 13, 14, 15, 24, 26, 35, 46, 52, 53, 54, 63], dt := [], nw := true }
theorem cfg46_ok : TTok Try.prog cfg46.tt := (TTok.cons tok24 (TTok.cons tok27 (TTok.cons tok3 (TTok.cons tok33 (TTok.cons tok22 TTok.nil)))))
def cfg47 : Cfg := { tt := [(24, ⟨.struct [(0, 3), (1, 3), (2, 22)], 3, 40, .agg #[.int .i64 0, .int .i64 0, .slice none 0 0]⟩), (27, ⟨.int .i64, 1, 8, .int .i64 0⟩), (3, ⟨.int .i64, 1, 8, .int .i64 0⟩), (33, ⟨.struct [(0, 3), (1, 3), (2, 3), (3, 3)], 4, 32, .agg #[.int .i64 0, .int .i64 0, .int .i64 0, .int .i64 0]⟩), (22, ⟨.slice 33, 1, 24, .slice none 0 0⟩)], live := [0, 1, 2, 4, 5, 7, 8, 10, 13, 22, 24, 30, 31, 32, 33, 39], dt := [], nw := true }
theorem cfg47_ok : TTok Try.prog cfg47.tt := (TTok.cons tok24 (TTok.cons tok27 (TTok.cons tok3 (TTok.cons tok33 (TTok.cons tok22 TTok.nil)))))
def cfg48 : Cfg := { tt := [(34, ⟨.slice 3, 1, 24, .slice none 0 0⟩), (3, ⟨.int .i64, 1, 8, .int .i64 0⟩)], live := [0, 1, 4, 6, 7, 8, 9, 10, 15], dt := [], nw := true }
theorem cfg48_ok : TTok Try.prog cfg48.tt := (TTok.cons tok34 (TTok.cons tok3 TTok.nil))
def cfg49 : Cfg := { tt := [(22, ⟨.slice 33, 1, 24, .slice none 0 0⟩), (59, ⟨.func, 1, 8, .nilFunc⟩), (3, ⟨.int .i64, 1, 8, .int .i64 0⟩), (33, ⟨.struct [(0, 3), (1, 3), (2, 3), (3, 3)], 4, 32, .agg #[.int .i64 0, .int .i64 0, .int .i64 0, .int .i64 0]⟩)], live := [0, 1, 4, 5, 6, 7, 12, 19, 29], dt := [], nw := true }
theorem cfg49_ok : TTok Try.prog cfg49.tt := (TTok.cons tok22 (TTok.cons tok59 (TTok.cons tok3 (TTok.cons tok33 TTok.nil))))
def cfg50 : Cfg := { tt := [(33, ⟨.struct [(0, 3), (1, 3), (2, 3), (3, 3)], 4, 32, .agg #[.int .i64 0, .int .i64 0, .int .i64 0, .int .i64 0]⟩), (59, ⟨.func, 1, 8, .nilFunc⟩), (3, ⟨.int .i64, 1, 8, .int .i64 0⟩)], live := [0, 1, 2, 3], dt := [], nw := true }
theorem cfg50_ok : TTok Try.prog cfg50.tt := (TTok.cons tok33 (TTok.cons tok59 (TTok.cons tok3 TTok.nil)))
def cfg51 : Cfg := { tt := [(34, ⟨.slice 3, 1, 24, .slice none 0 0⟩), (3, ⟨.int .i64, 1, 8, .int .i64 0⟩)], live := [0, 1, 4, 5, 7, 8, 9, 16], dt := [], nw := true }
theorem cfg51_ok : TTok Try.prog cfg51.tt := (TTok.cons tok34 (TTok.cons tok3 TTok.nil))
def cfg52 : Cfg := { tt := [(3, ⟨.int .i64, 1, 8, .int .i64 0⟩)], live := [0, 2], dt := [], nw := true }
theorem cfg52_ok : TTok Try.prog cfg52.tt := (TTok.cons tok3 TTok.nil)
def cfg53 : Cfg := { tt := [(22, ⟨.slice 33, 1, 24, .slice none 0 0⟩), (3, ⟨.int .i64, 1, 8, .int .i64 0⟩), (77, ⟨.int .u64, 1, 8, .int .u64 0⟩), (33, ⟨.struct [(0, 3), (1, 3), (2, 3), (3, 3)], 4, 32, .agg #[.int .i64 0, .int .i64 0, .int .i64 0, .int .i64 0]⟩)], live := [0, 1, 2, 6, 7, 8, 9, 10, 11, 17, 31], dt := [], nw := true }
theorem cfg53_ok : TTok Try.prog cfg53.tt := (TTok.cons tok22 (TTok.cons tok3 (TTok.cons tok77 (TTok.cons tok33 TTok.nil))))
def cfg54 : Cfg := { tt := [(33, ⟨.struct [(0, 3), (1, 3), (2, 3), (3, 3)], 4, 32, .agg #[.int .i64 0, .int .i64 0, .int .i64 0, .int .i64 0]⟩), (3, ⟨.int .i64, 1, 8, .int .i64 0⟩)], live := [0, 1, 2, 4], dt := [], nw := true }
theorem cfg54_ok : TTok Try.prog cfg54.tt := (TTok.cons tok33 (TTok.cons tok3 TTok.nil))
def cfg55 : Cfg := { tt := [], live := [], dt := [], nw := true }
theorem cfg55_ok : TTok Try.prog cfg55.tt :=  TTok.nil
def cfg56 : Cfg := { tt := [(22, ⟨.slice 33, 1, 24, .slice none 0 0⟩), (3, ⟨.int .i64, 1, 8, .int .i64 0⟩), (33, ⟨.struct [(0, 3), (1, 3), (2, 3), (3, 3)], 4, 32, .agg #[.int .i64 0, .int .i64 0, .int .i64 0, .int .i64 0]⟩)], live := [0, 1], dt := [], nw := true }
theorem cfg56_ok : TTok Try.prog cfg56.tt := (TTok.cons tok22 (TTok.cons tok3 (TTok.cons tok33 TTok.nil)))
def cfg57 : Cfg := { tt := [(22, ⟨.slice 33, 1, 24, .slice none 0 0⟩), (3, ⟨.int .i64, 1, 8, .int .i64 0⟩), (33, ⟨.struct [(0, 3), (1, 3), (2, 3), (3, 3)], 4, 32, .agg #[.int .i64 0, .int .i64 0, .int .i64 0, .int .i64 0]⟩)], live := [0, 1, 4, 5, 7, 8, 9, 16], dt := [], nw := true }
theorem cfg57_ok : TTok Try.prog cfg57.tt := (TTok.cons tok22 (TTok.cons tok3 (TTok.cons tok33 TTok.nil)))
def cfg58 : Cfg := { tt := [(22, ⟨.slice 33, 1, 24, .slice none 0 0⟩), (33, ⟨.struct [(0, 3), (1, 3), (2, 3), (3, 3)], 4, 32, .agg #[.int .i64 0, .int .i64 0, .int .i64 0, .int .i64 0]⟩), (3, ⟨.int .i64, 1, 8, .int .i64 0⟩)], live := [0, 1], dt := [], nw := true }
theorem cfg58_ok : TTok Try.prog cfg58.tt := (TTok.cons tok22 (TTok.cons tok33 (TTok.cons tok3 TTok.nil)))
def cfg59 : Cfg := { tt := [(22, ⟨.slice 33, 1, 24, .slice none 0 0⟩), (3, ⟨.int .i64, 1, 8, .int .i64 0⟩), (33, ⟨.struct [(0, 3), (1, 3), (2, 3), (3, 3)], 4, 32, .agg #[.int .i64 0, .int .i64 0, .int .i64 0, .int .i64 0]⟩)], live := [0, 2, 3, 9], dt := [(3, [(0, 0), (1, 0), (2, 2), (3, 2), (4, 0), (5, 0), (6, 0), (7, 0), (8, 0), (9, 0), (10, 0), (11, 0), (12, 0), (13, 3), (14, 2), (15, 3)])], nw := true }
theorem cfg59_ok : TTok Try.prog cfg59.tt := (TTok.cons tok22 (TTok.cons tok3 (TTok.cons tok33 TTok.nil)))
theorem mixed : Try.prog.follows .mixedOrders = true := by kernel_rfl
end Go.Proofs
