/- Tables of the program types and of its functions orders. -/
import Derived.Test.YtppgccbloaijoaaSxC
import Derived.Test.YtppgccbloaijoaaSxF
import Derived.Test.YtppgccbloaijoaaProg
namespace Go.Proofs
set_option linter.unusedVariables false
set_option linter.unusedSimpArgs false
set_option linter.unusedSectionVars false
open Go Go.SX Go.RowKit
theorem tok1 : TI.ok Try.prog 1 ⟨.func, 1, 8, .nilFunc⟩ := ⟨by kernel_rfl, by kernel_rfl⟩
theorem tok2 : TI.ok Try.prog 2 ⟨.int .i64, 1, 8, .int .i64 0⟩ := ⟨by kernel_rfl, by kernel_rfl⟩
theorem tok3 : TI.ok Try.prog 3 ⟨.int .i64, 1, 8, .int .i64 0⟩ := ⟨by kernel_rfl, by kernel_rfl⟩
theorem tok4 : TI.ok Try.prog 4 ⟨.bool, 1, 1, .bool false⟩ := ⟨by kernel_rfl, by kernel_rfl⟩
theorem tok5 : TI.ok Try.prog 5 ⟨.int .u8, 1, 1, .int .u8 0⟩ := ⟨by kernel_rfl, by kernel_rfl⟩
theorem tok6 : TI.ok Try.prog 6 ⟨.int .u8, 1, 1, .int .u8 0⟩ := ⟨by kernel_rfl, by kernel_rfl⟩
theorem tok7 : TI.ok Try.prog 7 ⟨.struct [(0, 2), (1, 3), (2, 4), (3, 6)], 4, 24, .agg #[.int .i64 0, .int .i64 0, .bool false, .int .u8 0]⟩ := ⟨by kernel_rfl, by kernel_rfl⟩
theorem tok8 : TI.ok Try.prog 8 ⟨.struct [(0, 2), (1, 3), (2, 4), (3, 6)], 4, 24, .agg #[.int .i64 0, .int .i64 0, .bool false, .int .u8 0]⟩ := ⟨by kernel_rfl, by kernel_rfl⟩
theorem tok9 : TI.ok Try.prog 9 ⟨.str, 1, 16, .string ⟨#[]⟩⟩ := ⟨by kernel_rfl, by kernel_rfl⟩
theorem tok10 : TI.ok Try.prog 10 ⟨.str, 1, 16, .string ⟨#[]⟩⟩ := ⟨by kernel_rfl, by kernel_rfl⟩
theorem tok11 : TI.ok Try.prog 11 ⟨.str, 1, 16, .string ⟨#[]⟩⟩ := ⟨by kernel_rfl, by kernel_rfl⟩
theorem tok12 : TI.ok Try.prog 12 ⟨.int .u64, 1, 8, .int .u64 0⟩ := ⟨by kernel_rfl, by kernel_rfl⟩
theorem tok13 : TI.ok Try.prog 13 ⟨.struct [(0, 9), (1, 12)], 2, 24, .agg #[.string ⟨#[]⟩, .int .u64 0]⟩ := ⟨by kernel_rfl, by kernel_rfl⟩
theorem tok14 : TI.ok Try.prog 14 ⟨.struct [(0, 9), (1, 12)], 2, 24, .agg #[.string ⟨#[]⟩, .int .u64 0]⟩ := ⟨by kernel_rfl, by kernel_rfl⟩
theorem tok15 : TI.ok Try.prog 15 ⟨.ptr 73, 1, 8, .pointer none⟩ := ⟨by kernel_rfl, by kernel_rfl⟩
theorem tok16 : TI.ok Try.prog 16 ⟨.ptr 76, 1, 8, .pointer none⟩ := ⟨by kernel_rfl, by kernel_rfl⟩
theorem tok17 : TI.ok Try.prog 17 ⟨.ptr 86, 1, 8, .pointer none⟩ := ⟨by kernel_rfl, by kernel_rfl⟩
theorem tok18 : TI.ok Try.prog 18 ⟨.struct [(0, 17)], 1, 8, .agg #[.pointer none]⟩ := ⟨by kernel_rfl, by kernel_rfl⟩
theorem tok19 : TI.ok Try.prog 19 ⟨.struct [(0, 17)], 1, 8, .agg #[.pointer none]⟩ := ⟨by kernel_rfl, by kernel_rfl⟩
theorem tok20 : TI.ok Try.prog 20 ⟨.iface, 1, 16, .nilIface⟩ := ⟨by kernel_rfl, by kernel_rfl⟩
theorem tok21 : TI.ok Try.prog 21 ⟨.int .i32, 1, 4, .int .i32 0⟩ := ⟨by kernel_rfl, by kernel_rfl⟩
theorem tok22 : TI.ok Try.prog 22 ⟨.func, 1, 8, .nilFunc⟩ := ⟨by kernel_rfl, by kernel_rfl⟩
theorem tok23 : TI.ok Try.prog 23 ⟨.ptr 59, 1, 8, .pointer none⟩ := ⟨by kernel_rfl, by kernel_rfl⟩
theorem tok24 : TI.ok Try.prog 24 ⟨.func, 1, 8, .nilFunc⟩ := ⟨by kernel_rfl, by kernel_rfl⟩
theorem tok25 : TI.ok Try.prog 25 ⟨.int .i64, 1, 8, .int .i64 0⟩ := ⟨by kernel_rfl, by kernel_rfl⟩
theorem tok26 : TI.ok Try.prog 26 ⟨.func, 1, 8, .nilFunc⟩ := ⟨by kernel_rfl, by kernel_rfl⟩
theorem tok27 : TI.ok Try.prog 27 ⟨.slice 5, 1, 24, .slice none 0 0⟩ := ⟨by kernel_rfl, by kernel_rfl⟩
theorem tok28 : TI.ok Try.prog 28 ⟨.func, 1, 8, .nilFunc⟩ := ⟨by kernel_rfl, by kernel_rfl⟩
theorem tok30 : TI.ok Try.prog 30 ⟨.func, 1, 8, .nilFunc⟩ := ⟨by kernel_rfl, by kernel_rfl⟩
theorem tok32 : TI.ok Try.prog 32 ⟨.func, 1, 8, .nilFunc⟩ := ⟨by kernel_rfl, by kernel_rfl⟩
theorem tok33 : TI.ok Try.prog 33 ⟨.slice 41, 1, 24, .slice none 0 0⟩ := ⟨by kernel_rfl, by kernel_rfl⟩
theorem tok34 : TI.ok Try.prog 34 ⟨.func, 1, 8, .nilFunc⟩ := ⟨by kernel_rfl, by kernel_rfl⟩
theorem tok35 : TI.ok Try.prog 35 ⟨.func, 1, 8, .nilFunc⟩ := ⟨by kernel_rfl, by kernel_rfl⟩
theorem tok36 : TI.ok Try.prog 36 ⟨.slice 40, 1, 24, .slice none 0 0⟩ := ⟨by kernel_rfl, by kernel_rfl⟩
theorem tok37 : TI.ok Try.prog 37 ⟨.func, 1, 8, .nilFunc⟩ := ⟨by kernel_rfl, by kernel_rfl⟩
theorem tok38 : TI.ok Try.prog 38 ⟨.map 41 9, 1, 8, .map none⟩ := ⟨by kernel_rfl, by kernel_rfl⟩
theorem tok39 : TI.ok Try.prog 39 ⟨.struct [(0, 3), (1, 3), (2, 3), (3, 3), (4, 4)], 5, 40, .agg #[.int .i64 0, .int .i64 0, .int .i64 0, .int .i64 0, .bool false]⟩ := ⟨by kernel_rfl, by kernel_rfl⟩
theorem tok40 : TI.ok Try.prog 40 ⟨.struct [(0, 3), (1, 3), (2, 3), (3, 3), (4, 4)], 5, 40, .agg #[.int .i64 0, .int .i64 0, .int .i64 0, .int .i64 0, .bool false]⟩ := ⟨by kernel_rfl, by kernel_rfl⟩
theorem tok41 : TI.ok Try.prog 41 ⟨.arr 2 3, 2, 16, .agg #[.int .i64 0, .int .i64 0]⟩ := ⟨by kernel_rfl, by kernel_rfl⟩
theorem tok42 : TI.ok Try.prog 42 ⟨.func, 1, 8, .nilFunc⟩ := ⟨by kernel_rfl, by kernel_rfl⟩
theorem tok44 : TI.ok Try.prog 44 ⟨.func, 1, 8, .nilFunc⟩ := ⟨by kernel_rfl, by kernel_rfl⟩
theorem tok45 : TI.ok Try.prog 45 ⟨.func, 1, 8, .nilFunc⟩ := ⟨by kernel_rfl, by kernel_rfl⟩
theorem tok46 : TI.ok Try.prog 46 ⟨.slice 27, 1, 24, .slice none 0 0⟩ := ⟨by kernel_rfl, by kernel_rfl⟩
theorem tok47 : TI.ok Try.prog 47 ⟨.func, 1, 8, .nilFunc⟩ := ⟨by kernel_rfl, by kernel_rfl⟩
theorem tok48 : TI.ok Try.prog 48 ⟨.func, 1, 8, .nilFunc⟩ := ⟨by kernel_rfl, by kernel_rfl⟩
theorem tok49 : TI.ok Try.prog 49 ⟨.map 3 50, 1, 8, .map none⟩ := ⟨by kernel_rfl, by kernel_rfl⟩
theorem tok50 : TI.ok Try.prog 50 ⟨.ptr 52, 1, 8, .pointer none⟩ := ⟨by kernel_rfl, by kernel_rfl⟩
theorem tok51 : TI.ok Try.prog 51 ⟨.struct [(0, 3), (1, 3), (2, 27), (3, 50), (4, 50)], 5, 56, .agg #[.int .i64 0, .int .i64 0, .slice none 0 0, .pointer none, .pointer none]⟩ := ⟨by kernel_rfl, by kernel_rfl⟩
theorem tok52 : TI.ok Try.prog 52 ⟨.struct [(0, 3), (1, 3), (2, 27), (3, 50), (4, 50)], 5, 56, .agg #[.int .i64 0, .int .i64 0, .slice none 0 0, .pointer none, .pointer none]⟩ := ⟨by kernel_rfl, by kernel_rfl⟩
theorem tok53 : TI.ok Try.prog 53 ⟨.struct [], 0, 0, .agg #[]⟩ := ⟨by kernel_rfl, by kernel_rfl⟩
theorem tok54 : TI.ok Try.prog 54 ⟨.struct [], 0, 0, .agg #[]⟩ := ⟨by kernel_rfl, by kernel_rfl⟩
theorem tok55 : TI.ok Try.prog 55 ⟨.struct [], 0, 0, .agg #[]⟩ := ⟨by kernel_rfl, by kernel_rfl⟩
theorem tok56 : TI.ok Try.prog 56 ⟨.struct [(0, 54), (0, 55), (0, 2)], 1, 8, .agg #[.int .i64 0]⟩ := ⟨by kernel_rfl, by kernel_rfl⟩
theorem tok57 : TI.ok Try.prog 57 ⟨.struct [(0, 54), (0, 55), (0, 2)], 1, 8, .agg #[.int .i64 0]⟩ := ⟨by kernel_rfl, by kernel_rfl⟩
theorem tok58 : TI.ok Try.prog 58 ⟨.struct [(0, 3), (1, 49), (2, 52), (7, 57), (8, 57)], 9, 88, .agg #[.int .i64 0, .map none, .int .i64 0, .int .i64 0, .slice none 0 0, .pointer none, .pointer none, .int .i64 0, .int .i64 0]⟩ := ⟨by kernel_rfl, by kernel_rfl⟩
theorem tok59 : TI.ok Try.prog 59 ⟨.struct [(0, 3), (1, 49), (2, 52), (7, 57), (8, 57)], 9, 88, .agg #[.int .i64 0, .map none, .int .i64 0, .int .i64 0, .slice none 0 0, .pointer none, .pointer none, .int .i64 0, .int .i64 0]⟩ := ⟨by kernel_rfl, by kernel_rfl⟩
theorem tok60 : TI.ok Try.prog 60 ⟨.func, 1, 8, .nilFunc⟩ := ⟨by kernel_rfl, by kernel_rfl⟩
theorem tok61 : TI.ok Try.prog 61 ⟨.func, 1, 8, .nilFunc⟩ := ⟨by kernel_rfl, by kernel_rfl⟩
theorem tok62 : TI.ok Try.prog 62 ⟨.int .u64, 1, 8, .int .u64 0⟩ := ⟨by kernel_rfl, by kernel_rfl⟩
theorem tok63 : TI.ok Try.prog 63 ⟨.func, 1, 8, .nilFunc⟩ := ⟨by kernel_rfl, by kernel_rfl⟩
theorem tok64 : TI.ok Try.prog 64 ⟨.func, 1, 8, .nilFunc⟩ := ⟨by kernel_rfl, by kernel_rfl⟩
theorem tok65 : TI.ok Try.prog 65 ⟨.slice 50, 1, 24, .slice none 0 0⟩ := ⟨by kernel_rfl, by kernel_rfl⟩
theorem tok66 : TI.ok Try.prog 66 ⟨.func, 1, 8, .nilFunc⟩ := ⟨by kernel_rfl, by kernel_rfl⟩
theorem tok67 : TI.ok Try.prog 67 ⟨.ptr 57, 1, 8, .pointer none⟩ := ⟨by kernel_rfl, by kernel_rfl⟩
theorem tok68 : TI.ok Try.prog 68 ⟨.func, 1, 8, .nilFunc⟩ := ⟨by kernel_rfl, by kernel_rfl⟩
theorem tok69 : TI.ok Try.prog 69 ⟨.ptr 2, 1, 8, .pointer none⟩ := ⟨by kernel_rfl, by kernel_rfl⟩
theorem tok70 : TI.ok Try.prog 70 ⟨.func, 1, 8, .nilFunc⟩ := ⟨by kernel_rfl, by kernel_rfl⟩
theorem tok71 : TI.ok Try.prog 71 ⟨.func, 1, 8, .nilFunc⟩ := ⟨by kernel_rfl, by kernel_rfl⟩
theorem tok72 : TI.ok Try.prog 72 ⟨.struct [(0, 17), (1, 17), (2, 17), (3, 9)], 4, 40, .agg #[.pointer none, .pointer none, .pointer none, .string ⟨#[]⟩]⟩ := ⟨by kernel_rfl, by kernel_rfl⟩
theorem tok73 : TI.ok Try.prog 73 ⟨.struct [(0, 17), (1, 17), (2, 17), (3, 9)], 4, 40, .agg #[.pointer none, .pointer none, .pointer none, .string ⟨#[]⟩]⟩ := ⟨by kernel_rfl, by kernel_rfl⟩
theorem tok74 : TI.ok Try.prog 74 ⟨.arr 0 16, 0, 0, .agg #[]⟩ := ⟨by kernel_rfl, by kernel_rfl⟩
theorem tok75 : TI.ok Try.prog 75 ⟨.struct [(0, 74)], 0, 0, .agg #[]⟩ := ⟨by kernel_rfl, by kernel_rfl⟩
theorem tok76 : TI.ok Try.prog 76 ⟨.struct [(0, 74)], 0, 0, .agg #[]⟩ := ⟨by kernel_rfl, by kernel_rfl⟩
theorem tok77 : TI.ok Try.prog 77 ⟨.func, 1, 8, .nilFunc⟩ := ⟨by kernel_rfl, by kernel_rfl⟩
theorem tok78 : TI.ok Try.prog 78 ⟨.int .u32, 1, 4, .int .u32 0⟩ := ⟨by kernel_rfl, by kernel_rfl⟩
theorem tok79 : TI.ok Try.prog 79 ⟨.int .u8, 1, 1, .int .u8 0⟩ := ⟨by kernel_rfl, by kernel_rfl⟩
theorem tok80 : TI.ok Try.prog 80 ⟨.int .u8, 1, 1, .int .u8 0⟩ := ⟨by kernel_rfl, by kernel_rfl⟩
theorem tok81 : TI.ok Try.prog 81 ⟨.func, 1, 8, .nilFunc⟩ := ⟨by kernel_rfl, by kernel_rfl⟩
theorem tok82 : TI.ok Try.prog 82 ⟨.ptr 5, 1, 8, .pointer none⟩ := ⟨by kernel_rfl, by kernel_rfl⟩
theorem tok83 : TI.ok Try.prog 83 ⟨.int .i32, 1, 4, .int .i32 0⟩ := ⟨by kernel_rfl, by kernel_rfl⟩
theorem tok84 : TI.ok Try.prog 84 ⟨.int .i32, 1, 4, .int .i32 0⟩ := ⟨by kernel_rfl, by kernel_rfl⟩
theorem tok85 : TI.ok Try.prog 85 ⟨.struct [(0, 12), (1, 12), (2, 78), (3, 79), (4, 5), (5, 5), (6, 80), (7, 81), (8, 82), (9, 83), (10, 84)], 11, 48, .agg #[.int .u64 0, .int .u64 0, .int .u32 0, .int .u8 0, .int .u8 0, .int .u8 0, .int .u8 0, .nilFunc, .pointer none, .int .i32 0, .int .i32 0]⟩ := ⟨by kernel_rfl, by kernel_rfl⟩
theorem tok86 : TI.ok Try.prog 86 ⟨.struct [(0, 12), (1, 12), (2, 78), (3, 79), (4, 5), (5, 5), (6, 80), (7, 81), (8, 82), (9, 83), (10, 84)], 11, 48, .agg #[.int .u64 0, .int .u64 0, .int .u32 0, .int .u8 0, .int .u8 0, .int .u8 0, .int .u8 0, .nilFunc, .pointer none, .int .i32 0, .int .i32 0]⟩ := ⟨by kernel_rfl, by kernel_rfl⟩
def cfg3 : Cfg := { tt := [(3, ⟨.int .i64, 1, 8, .int .i64 0⟩), (23, ⟨.ptr 59, 1, 8, .pointer none⟩), (27, ⟨.slice 5, 1, 24, .slice none 0 0⟩), (25, ⟨.int .i64, 1, 8, .int .i64 0⟩), (9, ⟨.str, 1, 16, .string ⟨#[]⟩⟩), (33, ⟨.slice 41, 1, 24, .slice none 0 0⟩), (5, ⟨.int .u8, 1, 1, .int .u8 0⟩), (41, ⟨.arr 2 3, 2, 16, .agg #[.int .i64 0, .int .i64 0]⟩)], live := [0, 1, 4, 5, 6, 7, 8, 9, 10, 11, 13, 15, 16, 17, 33, 34, 35, 44, 46, 47, 48, 67, 75, 80], dt := [(15, [(0, 0), (1, 0), (2, 0), (3, 0), (4, 0), (5, 0), (6, 1), (7, 1), (8, 1), (9, 0)])], nw := true }
theorem cfg3_ok : TTok Try.prog cfg3.tt := (TTok.cons tok3 (TTok.cons tok23 (TTok.cons tok27 (TTok.cons tok25 (TTok.cons tok9 (TTok.cons tok33 (TTok.cons tok5 (TTok.cons tok41 TTok.nil))))))))
def cfg4 : Cfg := { tt := [(36, ⟨.slice 40, 1, 24, .slice none 0 0⟩), (3, ⟨.int .i64, 1, 8, .int .i64 0⟩), (38, ⟨.map 41 9, 1, 8, .map none⟩), (40, ⟨.struct [(0, 3), (1, 3), (2, 3), (3, 3), (4, 4)], 5, 40, .agg #[.int .i64 0, .int .i64 0, .int .i64 0, .int .i64 0, .bool false]⟩), (23, ⟨.ptr 59, 1, 8, .pointer none⟩), (27, ⟨.slice 5, 1, 24, .slice none 0 0⟩), (25, ⟨.int .i64, 1, 8, .int .i64 0⟩), (41, ⟨.arr 2 3, 2, 16, .agg #[.int .i64 0, .int .i64 0]⟩), (9, ⟨.str, 1, 16, .string ⟨#[]⟩⟩), (33, ⟨.slice 41, 1, 24, .slice none 0 0⟩), (4, ⟨.bool, 1, 1, .bool false⟩), (5, ⟨.int .u8, 1, 1, .int .u8 0⟩)], live := [0, 1, 4, 5, 6, 7, 9, 10, 11, 12, 13, 14, 15, 17, 21, 26, 27, 28, 29, 33, 34, 45, 47, 49, 73, 84, 115, 116, 125, 126, 127, 128, 145, 152], dt := [(11, [(0, 0), (1, 0), (2, 0), (3, 0), (4, 0), (5, 0), (6, 0), (7, 1), (8, 1), (9, 1)]), (18, [(0, 0), (1, 0), (2, 0), (3, 0), (4, 0), (5, 0), (6, 0), (7, 0), (8, 1), (9, 1), (10, 3)])], nw := true }
theorem cfg4_ok : TTok Try.prog cfg4.tt := (TTok.cons tok36 (TTok.cons tok3 (TTok.cons tok38 (TTok.cons tok40 (TTok.cons tok23 (TTok.cons tok27 (TTok.cons tok25 (TTok.cons tok41 (TTok.cons tok9 (TTok.cons tok33 (TTok.cons tok4 (TTok.cons tok5 TTok.nil))))))))))))
def cfg5 : Cfg := { tt := [(3, ⟨.int .i64, 1, 8, .int .i64 0⟩), (46, ⟨.slice 27, 1, 24, .slice none 0 0⟩), (23, ⟨.ptr 59, 1, 8, .pointer none⟩), (25, ⟨.int .i64, 1, 8, .int .i64 0⟩), (33, ⟨.slice 41, 1, 24, .slice none 0 0⟩), (4, ⟨.bool, 1, 1, .bool false⟩), (27, ⟨.slice 5, 1, 24, .slice none 0 0⟩), (9, ⟨.str, 1, 16, .string ⟨#[]⟩⟩), (41, ⟨.arr 2 3, 2, 16, .agg #[.int .i64 0, .int .i64 0]⟩), (5, ⟨.int .u8, 1, 1, .int .u8 0⟩)], live := [0, 1, 2, 3, 8, 9, 10, 11, 12, 13, 14, 15, 16, 17, 28, 40, 41, 42, 64, 65, 66, 67, 95], dt := [(19, [(0, 0), (1, 0), (2, 0), (3, 0), (4, 0), (5, 0), (6, 0), (7, 0), (8, 0), (9, 0), (10, 0), (11, 0), (12, 0), (13, 1), (14, 1), (15, 1), (16, 0), (17, 0)])], nw := true }
theorem cfg5_ok : TTok Try.prog cfg5.tt := (TTok.cons tok3 (TTok.cons tok46 (TTok.cons tok23 (TTok.cons tok25 (TTok.cons tok33 (TTok.cons tok4 (TTok.cons tok27 (TTok.cons tok9 (TTok.cons tok41 (TTok.cons tok5 TTok.nil))))))))))
def cfg6 : Cfg := { tt := [(3, ⟨.int .i64, 1, 8, .int .i64 0⟩), (23, ⟨.ptr 59, 1, 8, .pointer none⟩), (27, ⟨.slice 5, 1, 24, .slice none 0 0⟩), (25, ⟨.int .i64, 1, 8, .int .i64 0⟩), (9, ⟨.str, 1, 16, .string ⟨#[]⟩⟩), (5, ⟨.int .u8, 1, 1, .int .u8 0⟩)], live := [0, 1, 2, 3, 4, 5, 7, 8, 9, 12], dt := [(9, [(0, 0), (1, 0), (2, 0), (3, 0), (4, 0), (5, 0), (6, 0), (7, 0), (8, 1), (9, 1), (10, 1), (11, 0), (12, 0), (13, 0), (14, 1), (15, 0), (16, 0), (17, 0), (18, 0), (19, 0), (20, 0), (21, 0), (22, 1), (23, 0), (24, 0), (25, 0), (26, 1), (27, 0), (28, 0)])], nw := true }
theorem cfg6_ok : TTok Try.prog cfg6.tt := (TTok.cons tok3 (TTok.cons tok23 (TTok.cons tok27 (TTok.cons tok25 (TTok.cons tok9 (TTok.cons tok5 TTok.nil))))))
def cfg7 : Cfg := { tt := [(3, ⟨.int .i64, 1, 8, .int .i64 0⟩), (49, ⟨.map 3 50, 1, 8, .map none⟩), (59, ⟨.struct [(0, 3), (1, 49), (2, 52), (7, 57), (8, 57)], 9, 88, .agg #[.int .i64 0, .map none, .int .i64 0, .int .i64 0, .slice none 0 0, .pointer none, .pointer none, .int .i64 0, .int .i64 0]⟩), (52, ⟨.struct [(0, 3), (1, 3), (2, 27), (3, 50), (4, 50)], 5, 56, .agg #[.int .i64 0, .int .i64 0, .slice none 0 0, .pointer none, .pointer none]⟩), (50, ⟨.ptr 52, 1, 8, .pointer none⟩), (57, ⟨.struct [(0, 54), (0, 55), (0, 2)], 1, 8, .agg #[.int .i64 0]⟩), (27, ⟨.slice 5, 1, 24, .slice none 0 0⟩), (54, ⟨.struct [], 0, 0, .agg #[]⟩), (55, ⟨.struct [], 0, 0, .agg #[]⟩), (2, ⟨.int .i64, 1, 8, .int .i64 0⟩), (5, ⟨.int .u8, 1, 1, .int .u8 0⟩)], live := [0, 2, 3], dt := [(2, [(0, 0), (1, 2), (2, 0), (3, 0), (4, 0), (5, 2), (6, 2), (7, 2), (8, 0), (9, 0), (10, 0), (11, 3), (12, 2), (13, 2), (14, 2), (15, 3)])], nw := true }
theorem cfg7_ok : TTok Try.prog cfg7.tt := (TTok.cons tok3 (TTok.cons tok49 (TTok.cons tok59 (TTok.cons tok52 (TTok.cons tok50 (TTok.cons tok57 (TTok.cons tok27 (TTok.cons tok54 (TTok.cons tok55 (TTok.cons tok2 (TTok.cons tok5 TTok.nil)))))))))))
def cfg8 : Cfg := { tt := [(3, ⟨.int .i64, 1, 8, .int .i64 0⟩), (27, ⟨.slice 5, 1, 24, .slice none 0 0⟩), (59, ⟨.struct [(0, 3), (1, 49), (2, 52), (7, 57), (8, 57)], 9, 88, .agg #[.int .i64 0, .map none, .int .i64 0, .int .i64 0, .slice none 0 0, .pointer none, .pointer none, .int .i64 0, .int .i64 0]⟩), (49, ⟨.map 3 50, 1, 8, .map none⟩), (50, ⟨.ptr 52, 1, 8, .pointer none⟩), (52, ⟨.struct [(0, 3), (1, 3), (2, 27), (3, 50), (4, 50)], 5, 56, .agg #[.int .i64 0, .int .i64 0, .slice none 0 0, .pointer none, .pointer none]⟩), (23, ⟨.ptr 59, 1, 8, .pointer none⟩), (5, ⟨.int .u8, 1, 1, .int .u8 0⟩), (57, ⟨.struct [(0, 54), (0, 55), (0, 2)], 1, 8, .agg #[.int .i64 0]⟩), (54, ⟨.struct [], 0, 0, .agg #[]⟩), (55, ⟨.struct [], 0, 0, .agg #[]⟩), (2, ⟨.int .i64, 1, 8, .int .i64 0⟩)], live := [0, 1, 2, 3, 8, 9, 10, 21, 29, 35, 63], dt := [(11, [(0, 0), (1, 0), (2, 0), (3, 0), (4, 0), (5, 0), (6, 0), (7, 0), (8, 0), (9, 0)])], nw := true }
theorem cfg8_ok : TTok Try.prog cfg8.tt := (TTok.cons tok3 (TTok.cons tok27 (TTok.cons tok59 (TTok.cons tok49 (TTok.cons tok50 (TTok.cons tok52 (TTok.cons tok23 (TTok.cons tok5 (TTok.cons tok57 (TTok.cons tok54 (TTok.cons tok55 (TTok.cons tok2 TTok.nil))))))))))))
def cfg9 : Cfg := { tt := [(27, ⟨.slice 5, 1, 24, .slice none 0 0⟩), (3, ⟨.int .i64, 1, 8, .int .i64 0⟩), (62, ⟨.int .u64, 1, 8, .int .u64 0⟩), (5, ⟨.int .u8, 1, 1, .int .u8 0⟩)], live := [0, 2, 3, 4, 7, 8, 9], dt := [], nw := true }
theorem cfg9_ok : TTok Try.prog cfg9.tt := (TTok.cons tok27 (TTok.cons tok3 (TTok.cons tok62 (TTok.cons tok5 TTok.nil))))
def cfg10 : Cfg := { tt := [(59, ⟨.struct [(0, 3), (1, 49), (2, 52), (7, 57), (8, 57)], 9, 88, .agg #[.int .i64 0, .map none, .int .i64 0, .int .i64 0, .slice none 0 0, .pointer none, .pointer none, .int .i64 0, .int .i64 0]⟩), (49, ⟨.map 3 50, 1, 8, .map none⟩), (50, ⟨.ptr 52, 1, 8, .pointer none⟩), (52, ⟨.struct [(0, 3), (1, 3), (2, 27), (3, 50), (4, 50)], 5, 56, .agg #[.int .i64 0, .int .i64 0, .slice none 0 0, .pointer none, .pointer none]⟩), (3, ⟨.int .i64, 1, 8, .int .i64 0⟩), (57, ⟨.struct [(0, 54), (0, 55), (0, 2)], 1, 8, .agg #[.int .i64 0]⟩), (2, ⟨.int .i64, 1, 8, .int .i64 0⟩), (23, ⟨.ptr 59, 1, 8, .pointer none⟩), (27, ⟨.slice 5, 1, 24, .slice none 0 0⟩), (54, ⟨.struct [], 0, 0, .agg #[]⟩), (55, ⟨.struct [], 0, 0, .agg #[]⟩), (5, ⟨.int .u8, 1, 1, .int .u8 0⟩)], live := [0, 1, 2, 6, 7, 8, 24], dt := [], nw := true }
theorem cfg10_ok : TTok Try.prog cfg10.tt := (TTok.cons tok59 (TTok.cons tok49 (TTok.cons tok50 (TTok.cons tok52 (TTok.cons tok3 (TTok.cons tok57 (TTok.cons tok2 (TTok.cons tok23 (TTok.cons tok27 (TTok.cons tok54 (TTok.cons tok55 (TTok.cons tok5 TTok.nil))))))))))))
def cfg11 : Cfg := { tt := [(59, ⟨.struct [(0, 3), (1, 49), (2, 52), (7, 57), (8, 57)], 9, 88, .agg #[.int .i64 0, .map none, .int .i64 0, .int .i64 0, .slice none 0 0, .pointer none, .pointer none, .int .i64 0, .int .i64 0]⟩), (57, ⟨.struct [(0, 54), (0, 55), (0, 2)], 1, 8, .agg #[.int .i64 0]⟩), (3, ⟨.int .i64, 1, 8, .int .i64 0⟩), (49, ⟨.map 3 50, 1, 8, .map none⟩), (52, ⟨.struct [(0, 3), (1, 3), (2, 27), (3, 50), (4, 50)], 5, 56, .agg #[.int .i64 0, .int .i64 0, .slice none 0 0, .pointer none, .pointer none]⟩), (54, ⟨.struct [], 0, 0, .agg #[]⟩), (55, ⟨.struct [], 0, 0, .agg #[]⟩), (2, ⟨.int .i64, 1, 8, .int .i64 0⟩), (50, ⟨.ptr 52, 1, 8, .pointer none⟩), (27, ⟨.slice 5, 1, 24, .slice none 0 0⟩), (5, ⟨.int .u8, 1, 1, .int .u8 0⟩)], live := [0, 2, 3], dt := [(1, [(0, 0), (1, 0), (2, 0), (4, 0), (5, 0), (6, 0), (3, 1), (7, 1), (8, 0), (9, 0)])], nw := true }
theorem cfg11_ok : TTok Try.prog cfg11.tt := (TTok.cons tok59 (TTok.cons tok57 (TTok.cons tok3 (TTok.cons tok49 (TTok.cons tok52 (TTok.cons tok54 (TTok.cons tok55 (TTok.cons tok2 (TTok.cons tok50 (TTok.cons tok27 (TTok.cons tok5 TTok.nil)))))))))))
def cfg12 : Cfg := { tt := [(23, ⟨.ptr 59, 1, 8, .pointer none⟩), (65, ⟨.slice 50, 1, 24, .slice none 0 0⟩), (3, ⟨.int .i64, 1, 8, .int .i64 0⟩), (50, ⟨.ptr 52, 1, 8, .pointer none⟩), (52, ⟨.struct [(0, 3), (1, 3), (2, 27), (3, 50), (4, 50)], 5, 56, .agg #[.int .i64 0, .int .i64 0, .slice none 0 0, .pointer none, .pointer none]⟩), (41, ⟨.arr 2 3, 2, 16, .agg #[.int .i64 0, .int .i64 0]⟩), (33, ⟨.slice 41, 1, 24, .slice none 0 0⟩), (27, ⟨.slice 5, 1, 24, .slice none 0 0⟩), (5, ⟨.int .u8, 1, 1, .int .u8 0⟩)], live := [0, 2, 3, 5, 7, 8, 9, 10], dt := [(5, [(0, 0), (1, 0), (2, 0), (3, 0), (4, 0), (5, 0), (6, 0), (7, 0), (8, 0), (9, 0), (10, 1), (11, 3), (12, 2)])], nw := true }
theorem cfg12_ok : TTok Try.prog cfg12.tt := (TTok.cons tok23 (TTok.cons tok65 (TTok.cons tok3 (TTok.cons tok50 (TTok.cons tok52 (TTok.cons tok41 (TTok.cons tok33 (TTok.cons tok27 (TTok.cons tok5 TTok.nil)))))))))
def cfg13 : Cfg := { tt := [(36, ⟨.slice 40, 1, 24, .slice none 0 0⟩), (3, ⟨.int .i64, 1, 8, .int .i64 0⟩), (40, ⟨.struct [(0, 3), (1, 3), (2, 3), (3, 3), (4, 4)], 5, 40, .agg #[.int .i64 0, .int .i64 0, .int .i64 0, .int .i64 0, .bool false]⟩), (4, ⟨.bool, 1, 1, .bool false⟩)], live := [0, 2, 4, 5, 6, 7, 8, 33], dt := [], nw := true }
theorem cfg13_ok : TTok Try.prog cfg13.tt := (TTok.cons tok36 (TTok.cons tok3 (TTok.cons tok40 (TTok.cons tok4 TTok.nil))))
def cfg14 : Cfg := { tt := [(41, ⟨.arr 2 3, 2, 16, .agg #[.int .i64 0, .int .i64 0]⟩), (23, ⟨.ptr 59, 1, 8, .pointer none⟩), (33, ⟨.slice 41, 1, 24, .slice none 0 0⟩), (3, ⟨.int .i64, 1, 8, .int .i64 0⟩)], live := [0, 1, 3, 4, 6, 8, 9, 10, 11, 16], dt := [], nw := true }
theorem cfg14_ok : TTok Try.prog cfg14.tt := (TTok.cons tok41 (TTok.cons tok23 (TTok.cons tok33 (TTok.cons tok3 TTok.nil))))
def cfg15 : Cfg := { tt := [(23, ⟨.ptr 59, 1, 8, .pointer none⟩), (65, ⟨.slice 50, 1, 24, .slice none 0 0⟩), (3, ⟨.int .i64, 1, 8, .int .i64 0⟩), (50, ⟨.ptr 52, 1, 8, .pointer none⟩), (52, ⟨.struct [(0, 3), (1, 3), (2, 27), (3, 50), (4, 50)], 5, 56, .agg #[.int .i64 0, .int .i64 0, .slice none 0 0, .pointer none, .pointer none]⟩), (27, ⟨.slice 5, 1, 24, .slice none 0 0⟩), (5, ⟨.int .u8, 1, 1, .int .u8 0⟩)], live := [0, 1, 2, 6, 7, 9, 11, 12, 13, 14, 32], dt := [], nw := true }
theorem cfg15_ok : TTok Try.prog cfg15.tt := (TTok.cons tok23 (TTok.cons tok65 (TTok.cons tok3 (TTok.cons tok50 (TTok.cons tok52 (TTok.cons tok27 (TTok.cons tok5 TTok.nil)))))))
def cfg16 : Cfg := { tt := [(46, ⟨.slice 27, 1, 24, .slice none 0 0⟩), (3, ⟨.int .i64, 1, 8, .int .i64 0⟩), (27, ⟨.slice 5, 1, 24, .slice none 0 0⟩), (23, ⟨.ptr 59, 1, 8, .pointer none⟩), (25, ⟨.int .i64, 1, 8, .int .i64 0⟩), (5, ⟨.int .u8, 1, 1, .int .u8 0⟩)], live := [0, 1, 2, 3, 8, 9, 10, 11, 12, 13, 14, 15, 27], dt := [], nw := true }
theorem cfg16_ok : TTok Try.prog cfg16.tt := (TTok.cons tok46 (TTok.cons tok3 (TTok.cons tok27 (TTok.cons tok23 (TTok.cons tok25 (TTok.cons tok5 TTok.nil))))))
def cfg17 : Cfg := { tt := [(50, ⟨.ptr 52, 1, 8, .pointer none⟩), (59, ⟨.struct [(0, 3), (1, 49), (2, 52), (7, 57), (8, 57)], 9, 88, .agg #[.int .i64 0, .map none, .int .i64 0, .int .i64 0, .slice none 0 0, .pointer none, .pointer none, .int .i64 0, .int .i64 0]⟩), (49, ⟨.map 3 50, 1, 8, .map none⟩), (52, ⟨.struct [(0, 3), (1, 3), (2, 27), (3, 50), (4, 50)], 5, 56, .agg #[.int .i64 0, .int .i64 0, .slice none 0 0, .pointer none, .pointer none]⟩), (3, ⟨.int .i64, 1, 8, .int .i64 0⟩), (57, ⟨.struct [(0, 54), (0, 55), (0, 2)], 1, 8, .agg #[.int .i64 0]⟩), (27, ⟨.slice 5, 1, 24, .slice none 0 0⟩), (54, ⟨.struct [], 0, 0, .agg #[]⟩), (55, ⟨.struct [], 0, 0, .agg #[]⟩), (2, ⟨.int .i64, 1, 8, .int .i64 0⟩), (5, ⟨.int .u8, 1, 1, .int .u8 0⟩)], live := [0, 1], dt := [(1, [(0, 0), (1, 0), (2, 0), (3, 0), (4, 0), (5, 0), (6, 0), (7, 0), (8, 3)])], nw := true }
theorem cfg17_ok : TTok Try.prog cfg17.tt := (TTok.cons tok50 (TTok.cons tok59 (TTok.cons tok49 (TTok.cons tok52 (TTok.cons tok3 (TTok.cons tok57 (TTok.cons tok27 (TTok.cons tok54 (TTok.cons tok55 (TTok.cons tok2 (TTok.cons tok5 TTok.nil)))))))))))
def cfg18 : Cfg := { tt := [(27, ⟨.slice 5, 1, 24, .slice none 0 0⟩), (5, ⟨.int .u8, 1, 1, .int .u8 0⟩)], live := [0, 2, 4], dt := [], nw := true }
theorem cfg18_ok : TTok Try.prog cfg18.tt := (TTok.cons tok27 (TTok.cons tok5 TTok.nil))
def cfg19 : Cfg := { tt := [(59, ⟨.struct [(0, 3), (1, 49), (2, 52), (7, 57), (8, 57)], 9, 88, .agg #[.int .i64 0, .map none, .int .i64 0, .int .i64 0, .slice none 0 0, .pointer none, .pointer none, .int .i64 0, .int .i64 0]⟩), (52, ⟨.struct [(0, 3), (1, 3), (2, 27), (3, 50), (4, 50)], 5, 56, .agg #[.int .i64 0, .int .i64 0, .slice none 0 0, .pointer none, .pointer none]⟩), (50, ⟨.ptr 52, 1, 8, .pointer none⟩), (3, ⟨.int .i64, 1, 8, .int .i64 0⟩), (49, ⟨.map 3 50, 1, 8, .map none⟩), (57, ⟨.struct [(0, 54), (0, 55), (0, 2)], 1, 8, .agg #[.int .i64 0]⟩), (27, ⟨.slice 5, 1, 24, .slice none 0 0⟩), (54, ⟨.struct [], 0, 0, .agg #[]⟩), (55, ⟨.struct [], 0, 0, .agg #[]⟩), (2, ⟨.int .i64, 1, 8, .int .i64 0⟩), (5, ⟨.int .u8, 1, 1, .int .u8 0⟩)], live := [0, 1], dt := [(0, [(0, 0), (1, 2), (2, 0), (3, 0), (4, 0), (5, 0), (6, 0), (7, 0), (8, 0), (9, 0), (10, 0), (11, 0), (12, 3), (13, 2), (14, 2), (15, 3)]), (1, [(0, 0), (1, 0), (2, 0), (3, 0), (4, 0), (5, 0), (6, 0), (7, 0), (8, 0), (9, 2), (10, 0), (11, 0), (12, 3), (13, 2), (14, 2), (15, 3)])], nw := true }
theorem cfg19_ok : TTok Try.prog cfg19.tt := (TTok.cons tok59 (TTok.cons tok52 (TTok.cons tok50 (TTok.cons tok3 (TTok.cons tok49 (TTok.cons tok57 (TTok.cons tok27 (TTok.cons tok54 (TTok.cons tok55 (TTok.cons tok2 (TTok.cons tok5 TTok.nil)))))))))))
def cfg20 : Cfg := { tt := [(57, ⟨.struct [(0, 54), (0, 55), (0, 2)], 1, 8, .agg #[.int .i64 0]⟩), (69, ⟨.ptr 2, 1, 8, .pointer none⟩), (2, ⟨.int .i64, 1, 8, .int .i64 0⟩), (54, ⟨.struct [], 0, 0, .agg #[]⟩), (55, ⟨.struct [], 0, 0, .agg #[]⟩)], live := [0, 1, 4], dt := [], nw := true }
theorem cfg20_ok : TTok Try.prog cfg20.tt := (TTok.cons tok57 (TTok.cons tok69 (TTok.cons tok2 (TTok.cons tok54 (TTok.cons tok55 TTok.nil)))))
def cfg21 : Cfg := { tt := [(52, ⟨.struct [(0, 3), (1, 3), (2, 27), (3, 50), (4, 50)], 5, 56, .agg #[.int .i64 0, .int .i64 0, .slice none 0 0, .pointer none, .pointer none]⟩), (50, ⟨.ptr 52, 1, 8, .pointer none⟩), (3, ⟨.int .i64, 1, 8, .int .i64 0⟩), (27, ⟨.slice 5, 1, 24, .slice none 0 0⟩), (5, ⟨.int .u8, 1, 1, .int .u8 0⟩)], live := [0], dt := [(0, [(0, 0), (1, 0), (2, 0), (3, 0), (4, 0), (5, 0), (6, 0), (7, 0), (8, 0), (9, 0), (10, 0), (11, 0), (12, 0), (13, 0), (14, 0), (15, 0), (16, 0), (17, 0), (18, 3), (19, 2), (20, 2), (21, 3)])], nw := true }
theorem cfg21_ok : TTok Try.prog cfg21.tt := (TTok.cons tok52 (TTok.cons tok50 (TTok.cons tok3 (TTok.cons tok27 (TTok.cons tok5 TTok.nil)))))
def cfg22 : Cfg := { tt := [(57, ⟨.struct [(0, 54), (0, 55), (0, 2)], 1, 8, .agg #[.int .i64 0]⟩), (69, ⟨.ptr 2, 1, 8, .pointer none⟩), (54, ⟨.struct [], 0, 0, .agg #[]⟩), (55, ⟨.struct [], 0, 0, .agg #[]⟩), (2, ⟨.int .i64, 1, 8, .int .i64 0⟩)], live := [0, 2], dt := [], nw := true }
theorem cfg22_ok : TTok Try.prog cfg22.tt := (TTok.cons tok57 (TTok.cons tok69 (TTok.cons tok54 (TTok.cons tok55 (TTok.cons tok2 TTok.nil)))))
def cfg23 : Cfg := { tt := [(59, ⟨.struct [(0, 3), (1, 49), (2, 52), (7, 57), (8, 57)], 9, 88, .agg #[.int .i64 0, .map none, .int .i64 0, .int .i64 0, .slice none 0 0, .pointer none, .pointer none, .int .i64 0, .int .i64 0]⟩), (52, ⟨.struct [(0, 3), (1, 3), (2, 27), (3, 50), (4, 50)], 5, 56, .agg #[.int .i64 0, .int .i64 0, .slice none 0 0, .pointer none, .pointer none]⟩), (50, ⟨.ptr 52, 1, 8, .pointer none⟩), (65, ⟨.slice 50, 1, 24, .slice none 0 0⟩), (3, ⟨.int .i64, 1, 8, .int .i64 0⟩), (49, ⟨.map 3 50, 1, 8, .map none⟩), (57, ⟨.struct [(0, 54), (0, 55), (0, 2)], 1, 8, .agg #[.int .i64 0]⟩), (27, ⟨.slice 5, 1, 24, .slice none 0 0⟩), (54, ⟨.struct [], 0, 0, .agg #[]⟩), (55, ⟨.struct [], 0, 0, .agg #[]⟩), (2, ⟨.int .i64, 1, 8, .int .i64 0⟩), (5, ⟨.int .u8, 1, 1, .int .u8 0⟩)], live := [0, 2, 3, 4, 14], dt := [], nw := true }
theorem cfg23_ok : TTok Try.prog cfg23.tt := (TTok.cons tok59 (TTok.cons tok52 (TTok.cons tok50 (TTok.cons tok65 (TTok.cons tok3 (TTok.cons tok49 (TTok.cons tok57 (TTok.cons tok27 (TTok.cons tok54 (TTok.cons tok55 (TTok.cons tok2 (TTok.cons tok5 TTok.nil))))))))))))
theorem mixed : Try.prog.follows .mixedOrders = true := by kernel_rfl
end Go.Proofs
