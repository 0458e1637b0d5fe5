/- Tables of the program types and of its functions orders. -/
import Derived.Test.YtajppkjbmiemhaaSxI
import Derived.Test.YtajppkjbmiemhaaSxQ
import Derived.Test.YtajppkjbmiemhaaHL
import Derived.Test.YtajppkjbmiemhaaProg
namespace Go.Proofs
set_option linter.unusedVariables false
set_option linter.unusedSimpArgs false
set_option linter.unusedSectionVars false
open Go Go.SX Go.RowKit
theorem tok1 : TI.ok Try.prog 1 ⟨.func, 1, 8, .nilFunc⟩ := ⟨by kernel_rfl, by kernel_rfl⟩
theorem tok2 : TI.ok Try.prog 2 ⟨.int .i64, 1, 8, .int .i64 0⟩ := ⟨by kernel_rfl, by kernel_rfl⟩
theorem tok3 : TI.ok Try.prog 3 ⟨.int .i64, 1, 8, .int .i64 0⟩ := ⟨by kernel_rfl, by kernel_rfl⟩
theorem tok4 : TI.ok Try.prog 4 ⟨.bool, 1, 1, .bool false⟩ := ⟨by kernel_rfl, by kernel_rfl⟩
theorem tok5 : TI.ok Try.prog 5 ⟨.int .u8, 1, 1, .int .u8 0⟩ := ⟨by kernel_rfl, by kernel_rfl⟩
theorem tok6 : TI.ok Try.prog 6 ⟨.int .u8, 1, 1, .int .u8 0⟩ := ⟨by kernel_rfl, by kernel_rfl⟩
theorem tok7 : TI.ok Try.prog 7 ⟨.struct [(0, 2), (1, 3), (2, 4), (3, 6)], 4, 24, .agg #[.int .i64 0, .int .i64 0, .bool false, .int .u8 0]⟩ := ⟨by kernel_rfl, by kernel_rfl⟩
theorem tok8 : TI.ok Try.prog 8 ⟨.struct [(0, 2), (1, 3), (2, 4), (3, 6)], 4, 24, .agg #[.int .i64 0, .int .i64 0, .bool false, .int .u8 0]⟩ := ⟨by kernel_rfl, by kernel_rfl⟩
theorem tok9 : TI.ok Try.prog 9 ⟨.str, 1, 16, .string ⟨#[]⟩⟩ := ⟨by kernel_rfl, by kernel_rfl⟩
theorem tok10 : TI.ok Try.prog 10 ⟨.str, 1, 16, .string ⟨#[]⟩⟩ := ⟨by kernel_rfl, by kernel_rfl⟩
theorem tok11 : TI.ok Try.prog 11 ⟨.str, 1, 16, .string ⟨#[]⟩⟩ := ⟨by kernel_rfl, by kernel_rfl⟩
theorem tok12 : TI.ok Try.prog 12 ⟨.int .u64, 1, 8, .int .u64 0⟩ := ⟨by kernel_rfl, by kernel_rfl⟩
theorem tok13 : TI.ok Try.prog 13 ⟨.struct [(0, 9), (1, 12)], 2, 24, .agg #[.string ⟨#[]⟩, .int .u64 0]⟩ := ⟨by kernel_rfl, by kernel_rfl⟩
theorem tok14 : TI.ok Try.prog 14 ⟨.struct [(0, 9), (1, 12)], 2, 24, .agg #[.string ⟨#[]⟩, .int .u64 0]⟩ := ⟨by kernel_rfl, by kernel_rfl⟩
theorem tok15 : TI.ok Try.prog 15 ⟨.ptr 89, 1, 8, .pointer none⟩ := ⟨by kernel_rfl, by kernel_rfl⟩
theorem tok16 : TI.ok Try.prog 16 ⟨.ptr 92, 1, 8, .pointer none⟩ := ⟨by kernel_rfl, by kernel_rfl⟩
theorem tok17 : TI.ok Try.prog 17 ⟨.ptr 101, 1, 8, .pointer none⟩ := ⟨by kernel_rfl, by kernel_rfl⟩
theorem tok18 : TI.ok Try.prog 18 ⟨.struct [(0, 17)], 1, 8, .agg #[.pointer none]⟩ := ⟨by kernel_rfl, by kernel_rfl⟩
theorem tok19 : TI.ok Try.prog 19 ⟨.struct [(0, 17)], 1, 8, .agg #[.pointer none]⟩ := ⟨by kernel_rfl, by kernel_rfl⟩
theorem tok20 : TI.ok Try.prog 20 ⟨.iface, 1, 16, .nilIface⟩ := ⟨by kernel_rfl, by kernel_rfl⟩
theorem tok21 : TI.ok Try.prog 21 ⟨.int .i32, 1, 4, .int .i32 0⟩ := ⟨by kernel_rfl, by kernel_rfl⟩
theorem tok22 : TI.ok Try.prog 22 ⟨.slice 28, 1, 24, .slice none 0 0⟩ := ⟨by kernel_rfl, by kernel_rfl⟩
theorem tok23 : TI.ok Try.prog 23 ⟨.func, 1, 8, .nilFunc⟩ := ⟨by kernel_rfl, by kernel_rfl⟩
theorem tok24 : TI.ok Try.prog 24 ⟨.func, 1, 8, .nilFunc⟩ := ⟨by kernel_rfl, by kernel_rfl⟩
theorem tok26 : TI.ok Try.prog 26 ⟨.func, 1, 8, .nilFunc⟩ := ⟨by kernel_rfl, by kernel_rfl⟩
theorem tok27 : TI.ok Try.prog 27 ⟨.struct [(0, 3), (1, 3), (2, 4), (3, 3), (4, 5)], 5, 40, .agg #[.int .i64 0, .int .i64 0, .bool false, .int .i64 0, .int .u8 0]⟩ := ⟨by kernel_rfl, by kernel_rfl⟩
theorem tok28 : TI.ok Try.prog 28 ⟨.struct [(0, 3), (1, 3), (2, 4), (3, 3), (4, 5)], 5, 40, .agg #[.int .i64 0, .int .i64 0, .bool false, .int .i64 0, .int .u8 0]⟩ := ⟨by kernel_rfl, by kernel_rfl⟩
theorem tok29 : TI.ok Try.prog 29 ⟨.func, 1, 8, .nilFunc⟩ := ⟨by kernel_rfl, by kernel_rfl⟩
theorem tok30 : TI.ok Try.prog 30 ⟨.func, 1, 8, .nilFunc⟩ := ⟨by kernel_rfl, by kernel_rfl⟩
theorem tok31 : TI.ok Try.prog 31 ⟨.func, 1, 8, .nilFunc⟩ := ⟨by kernel_rfl, by kernel_rfl⟩
theorem tok32 : TI.ok Try.prog 32 ⟨.map 28 3, 1, 8, .map none⟩ := ⟨by kernel_rfl, by kernel_rfl⟩
theorem tok33 : TI.ok Try.prog 33 ⟨.func, 1, 8, .nilFunc⟩ := ⟨by kernel_rfl, by kernel_rfl⟩
theorem tok34 : TI.ok Try.prog 34 ⟨.slice 3, 1, 24, .slice none 0 0⟩ := ⟨by kernel_rfl, by kernel_rfl⟩
theorem tok35 : TI.ok Try.prog 35 ⟨.func, 1, 8, .nilFunc⟩ := ⟨by kernel_rfl, by kernel_rfl⟩
theorem tok36 : TI.ok Try.prog 36 ⟨.func, 1, 8, .nilFunc⟩ := ⟨by kernel_rfl, by kernel_rfl⟩
theorem tok38 : TI.ok Try.prog 38 ⟨.func, 1, 8, .nilFunc⟩ := ⟨by kernel_rfl, by kernel_rfl⟩
theorem tok39 : TI.ok Try.prog 39 ⟨.func, 1, 8, .nilFunc⟩ := ⟨by kernel_rfl, by kernel_rfl⟩
theorem tok40 : TI.ok Try.prog 40 ⟨.slice 22, 1, 24, .slice none 0 0⟩ := ⟨by kernel_rfl, by kernel_rfl⟩
theorem tok41 : TI.ok Try.prog 41 ⟨.map 3 42, 1, 8, .map none⟩ := ⟨by kernel_rfl, by kernel_rfl⟩
theorem tok42 : TI.ok Try.prog 42 ⟨.ptr 44, 1, 8, .pointer none⟩ := ⟨by kernel_rfl, by kernel_rfl⟩
theorem tok43 : TI.ok Try.prog 43 ⟨.struct [(0, 28), (5, 3)], 6, 48, .agg #[.int .i64 0, .int .i64 0, .bool false, .int .i64 0, .int .u8 0, .int .i64 0]⟩ := ⟨by kernel_rfl, by kernel_rfl⟩
theorem tok44 : TI.ok Try.prog 44 ⟨.struct [(0, 28), (5, 3)], 6, 48, .agg #[.int .i64 0, .int .i64 0, .bool false, .int .i64 0, .int .u8 0, .int .i64 0]⟩ := ⟨by kernel_rfl, by kernel_rfl⟩
theorem tok45 : TI.ok Try.prog 45 ⟨.func, 1, 8, .nilFunc⟩ := ⟨by kernel_rfl, by kernel_rfl⟩
theorem tok46 : TI.ok Try.prog 46 ⟨.func, 1, 8, .nilFunc⟩ := ⟨by kernel_rfl, by kernel_rfl⟩
theorem tok47 : TI.ok Try.prog 47 ⟨.func, 1, 8, .nilFunc⟩ := ⟨by kernel_rfl, by kernel_rfl⟩
theorem tok48 : TI.ok Try.prog 48 ⟨.map 3 4, 1, 8, .map none⟩ := ⟨by kernel_rfl, by kernel_rfl⟩
theorem tok49 : TI.ok Try.prog 49 ⟨.func, 1, 8, .nilFunc⟩ := ⟨by kernel_rfl, by kernel_rfl⟩
theorem tok50 : TI.ok Try.prog 50 ⟨.func, 1, 8, .nilFunc⟩ := ⟨by kernel_rfl, by kernel_rfl⟩
theorem tok51 : TI.ok Try.prog 51 ⟨.func, 1, 8, .nilFunc⟩ := ⟨by kernel_rfl, by kernel_rfl⟩
theorem tok52 : TI.ok Try.prog 52 ⟨.func, 1, 8, .nilFunc⟩ := ⟨by kernel_rfl, by kernel_rfl⟩
theorem tok53 : TI.ok Try.prog 53 ⟨.func, 1, 8, .nilFunc⟩ := ⟨by kernel_rfl, by kernel_rfl⟩
theorem tok54 : TI.ok Try.prog 54 ⟨.func, 1, 8, .nilFunc⟩ := ⟨by kernel_rfl, by kernel_rfl⟩
theorem tok55 : TI.ok Try.prog 55 ⟨.func, 1, 8, .nilFunc⟩ := ⟨by kernel_rfl, by kernel_rfl⟩
theorem tok56 : TI.ok Try.prog 56 ⟨.func, 1, 8, .nilFunc⟩ := ⟨by kernel_rfl, by kernel_rfl⟩
theorem tok57 : TI.ok Try.prog 57 ⟨.func, 1, 8, .nilFunc⟩ := ⟨by kernel_rfl, by kernel_rfl⟩
theorem tok58 : TI.ok Try.prog 58 ⟨.func, 1, 8, .nilFunc⟩ := ⟨by kernel_rfl, by kernel_rfl⟩
theorem tok59 : TI.ok Try.prog 59 ⟨.func, 1, 8, .nilFunc⟩ := ⟨by kernel_rfl, by kernel_rfl⟩
theorem tok60 : TI.ok Try.prog 60 ⟨.func, 1, 8, .nilFunc⟩ := ⟨by kernel_rfl, by kernel_rfl⟩
theorem tok61 : TI.ok Try.prog 61 ⟨.func, 1, 8, .nilFunc⟩ := ⟨by kernel_rfl, by kernel_rfl⟩
theorem tok62 : TI.ok Try.prog 62 ⟨.func, 1, 8, .nilFunc⟩ := ⟨by kernel_rfl, by kernel_rfl⟩
theorem tok63 : TI.ok Try.prog 63 ⟨.func, 1, 8, .nilFunc⟩ := ⟨by kernel_rfl, by kernel_rfl⟩
theorem tok64 : TI.ok Try.prog 64 ⟨.func, 1, 8, .nilFunc⟩ := ⟨by kernel_rfl, by kernel_rfl⟩
theorem tok65 : TI.ok Try.prog 65 ⟨.int .u64, 1, 8, .int .u64 0⟩ := ⟨by kernel_rfl, by kernel_rfl⟩
theorem tok66 : TI.ok Try.prog 66 ⟨.func, 1, 8, .nilFunc⟩ := ⟨by kernel_rfl, by kernel_rfl⟩
theorem tok67 : TI.ok Try.prog 67 ⟨.int .i64, 1, 8, .int .i64 0⟩ := ⟨by kernel_rfl, by kernel_rfl⟩
theorem tok69 : TI.ok Try.prog 69 ⟨.func, 1, 8, .nilFunc⟩ := ⟨by kernel_rfl, by kernel_rfl⟩
theorem tok70 : TI.ok Try.prog 70 ⟨.func, 1, 8, .nilFunc⟩ := ⟨by kernel_rfl, by kernel_rfl⟩
theorem tok71 : TI.ok Try.prog 71 ⟨.func, 1, 8, .nilFunc⟩ := ⟨by kernel_rfl, by kernel_rfl⟩
theorem tok72 : TI.ok Try.prog 72 ⟨.func, 1, 8, .nilFunc⟩ := ⟨by kernel_rfl, by kernel_rfl⟩
theorem tok73 : TI.ok Try.prog 73 ⟨.func, 1, 8, .nilFunc⟩ := ⟨by kernel_rfl, by kernel_rfl⟩
theorem tok74 : TI.ok Try.prog 74 ⟨.func, 1, 8, .nilFunc⟩ := ⟨by kernel_rfl, by kernel_rfl⟩
theorem tok75 : TI.ok Try.prog 75 ⟨.int .u32, 1, 4, .int .u32 0⟩ := ⟨by kernel_rfl, by kernel_rfl⟩
theorem tok76 : TI.ok Try.prog 76 ⟨.func, 1, 8, .nilFunc⟩ := ⟨by kernel_rfl, by kernel_rfl⟩
theorem tok77 : TI.ok Try.prog 77 ⟨.int .u64, 1, 8, .int .u64 0⟩ := ⟨by kernel_rfl, by kernel_rfl⟩
theorem tok78 : TI.ok Try.prog 78 ⟨.int .u64, 1, 8, .int .u64 0⟩ := ⟨by kernel_rfl, by kernel_rfl⟩
theorem tok79 : TI.ok Try.prog 79 ⟨.func, 1, 8, .nilFunc⟩ := ⟨by kernel_rfl, by kernel_rfl⟩
theorem tok80 : TI.ok Try.prog 80 ⟨.func, 1, 8, .nilFunc⟩ := ⟨by kernel_rfl, by kernel_rfl⟩
theorem tok81 : TI.ok Try.prog 81 ⟨.func, 1, 8, .nilFunc⟩ := ⟨by kernel_rfl, by kernel_rfl⟩
theorem tok82 : TI.ok Try.prog 82 ⟨.ptr 3, 1, 8, .pointer none⟩ := ⟨by kernel_rfl, by kernel_rfl⟩
theorem tok83 : TI.ok Try.prog 83 ⟨.func, 1, 8, .nilFunc⟩ := ⟨by kernel_rfl, by kernel_rfl⟩
theorem tok84 : TI.ok Try.prog 84 ⟨.ptr 78, 1, 8, .pointer none⟩ := ⟨by kernel_rfl, by kernel_rfl⟩
theorem tok86 : TI.ok Try.prog 86 ⟨.func, 1, 8, .nilFunc⟩ := ⟨by kernel_rfl, by kernel_rfl⟩
theorem tok87 : TI.ok Try.prog 87 ⟨.func, 1, 8, .nilFunc⟩ := ⟨by kernel_rfl, by kernel_rfl⟩
theorem tok88 : TI.ok Try.prog 88 ⟨.struct [(0, 17), (1, 17), (2, 17), (3, 9)], 4, 40, .agg #[.pointer none, .pointer none, .pointer none, .string ⟨#[]⟩]⟩ := ⟨by kernel_rfl, by kernel_rfl⟩
theorem tok89 : TI.ok Try.prog 89 ⟨.struct [(0, 17), (1, 17), (2, 17), (3, 9)], 4, 40, .agg #[.pointer none, .pointer none, .pointer none, .string ⟨#[]⟩]⟩ := ⟨by kernel_rfl, by kernel_rfl⟩
theorem tok90 : TI.ok Try.prog 90 ⟨.arr 0 16, 0, 0, .agg #[]⟩ := ⟨by kernel_rfl, by kernel_rfl⟩
theorem tok91 : TI.ok Try.prog 91 ⟨.struct [(0, 90)], 0, 0, .agg #[]⟩ := ⟨by kernel_rfl, by kernel_rfl⟩
theorem tok92 : TI.ok Try.prog 92 ⟨.struct [(0, 90)], 0, 0, .agg #[]⟩ := ⟨by kernel_rfl, by kernel_rfl⟩
theorem tok93 : TI.ok Try.prog 93 ⟨.func, 1, 8, .nilFunc⟩ := ⟨by kernel_rfl, by kernel_rfl⟩
theorem tok94 : TI.ok Try.prog 94 ⟨.int .u8, 1, 1, .int .u8 0⟩ := ⟨by kernel_rfl, by kernel_rfl⟩
theorem tok95 : TI.ok Try.prog 95 ⟨.int .u8, 1, 1, .int .u8 0⟩ := ⟨by kernel_rfl, by kernel_rfl⟩
theorem tok96 : TI.ok Try.prog 96 ⟨.func, 1, 8, .nilFunc⟩ := ⟨by kernel_rfl, by kernel_rfl⟩
theorem tok97 : TI.ok Try.prog 97 ⟨.ptr 5, 1, 8, .pointer none⟩ := ⟨by kernel_rfl, by kernel_rfl⟩
theorem tok98 : TI.ok Try.prog 98 ⟨.int .i32, 1, 4, .int .i32 0⟩ := ⟨by kernel_rfl, by kernel_rfl⟩
theorem tok99 : TI.ok Try.prog 99 ⟨.int .i32, 1, 4, .int .i32 0⟩ := ⟨by kernel_rfl, by kernel_rfl⟩
theorem tok100 : TI.ok Try.prog 100 ⟨.struct [(0, 12), (1, 12), (2, 75), (3, 94), (4, 5), (5, 5), (6, 95), (7, 96), (8, 97), (9, 98), (10, 99)], 11, 48, .agg #[.int .u64 0, .int .u64 0, .int .u32 0, .int .u8 0, .int .u8 0, .int .u8 0, .int .u8 0, .nilFunc, .pointer none, .int .i32 0, .int .i32 0]⟩ := ⟨by kernel_rfl, by kernel_rfl⟩
theorem tok101 : TI.ok Try.prog 101 ⟨.struct [(0, 12), (1, 12), (2, 75), (3, 94), (4, 5), (5, 5), (6, 95), (7, 96), (8, 97), (9, 98), (10, 99)], 11, 48, .agg #[.int .u64 0, .int .u64 0, .int .u32 0, .int .u8 0, .int .u8 0, .int .u8 0, .int .u8 0, .nilFunc, .pointer none, .int .i32 0, .int .i32 0]⟩ := ⟨by kernel_rfl, by kernel_rfl⟩
def cfg3 : Cfg := { tt := [(40, ⟨.slice 22, 1, 24, .slice none 0 0⟩), (22, ⟨.slice 28, 1, 24, .slice none 0 0⟩), (3, ⟨.int .i64, 1, 8, .int .i64 0⟩), (28, ⟨.struct [(0, 3), (1, 3), (2, 4), (3, 3), (4, 5)], 5, 40, .agg #[.int .i64 0, .int .i64 0, .bool false, .int .i64 0, .int .u8 0]⟩), (4, ⟨.bool, 1, 1, .bool false⟩), (5, ⟨.int .u8, 1, 1, .int .u8 0⟩)], live := [0, 1, 2, 6, 7, 9, 10, 11, 12, 13, 23, 31, 43, 44, 57, 63, 76, 101], dt := [], nw := true }
theorem cfg3_ok : TTok Try.prog cfg3.tt := (TTok.cons tok40 (TTok.cons tok22 (TTok.cons tok3 (TTok.cons tok28 (TTok.cons tok4 (TTok.cons tok5 TTok.nil))))))
def cfg4 : Cfg := { tt := [(40, ⟨.slice 22, 1, 24, .slice none 0 0⟩), (22, ⟨.slice 28, 1, 24, .slice none 0 0⟩), (3, ⟨.int .i64, 1, 8, .int .i64 0⟩), (32, ⟨.map 28 3, 1, 8, .map none⟩), (28, ⟨.struct [(0, 3), (1, 3), (2, 4), (3, 3), (4, 5)], 5, 40, .agg #[.int .i64 0, .int .i64 0, .bool false, .int .i64 0, .int .u8 0]⟩), (4, ⟨.bool, 1, 1, .bool false⟩), (5, ⟨.int .u8, 1, 1, .int .u8 0⟩)], live := [0, 2, 3, 4, 5, 7, 8, 9, 11, 12, 13, 14, 19, 34, 36, 37, 38, 39, 49, 50, 51, 52, 80, 82, 83, 84, 85, 89, 90, 91, 100, 115, 127], dt := [(11, [(0, 0), (1, 0), (5, 1000000), (2, 3), (3, 2), (4, 3), (5, 2), (6, 3), (4, 3), (5, 2), (2, 3), (3, 2), (6, 3)]), (16, [(0, 0), (1, 0), (5, 1000000), (2, 3), (3, 2), (4, 3), (5, 2), (6, 3), (4, 3), (5, 2), (2, 3), (3, 2), (6, 3)]), (17, [(0, 0), (1, 0), (2, 1), (3, 0), (4, 0), (5, 0), (6, 0), (7, 0), (8, 0), (9, 0), (10, 0), (11, 0), (12, 0), (13, 0), (14, 0), (15, 0), (16, 0), (17, 0), (18, 0)]), (28, [(0, 0), (1, 0), (2, 0), (3, 0), (4, 0), (5, 0), (6, 0), (7, 0)]), (30, [(0, 0), (1, 0), (2, 0), (3, 0), (4, 0), (5, 0), (6, 0), (7, 0)])], nw := true }
theorem cfg4_ok : TTok Try.prog cfg4.tt := (TTok.cons tok40 (TTok.cons tok22 (TTok.cons tok3 (TTok.cons tok32 (TTok.cons tok28 (TTok.cons tok4 (TTok.cons tok5 TTok.nil)))))))
def cfg7 : Cfg := { tt := [(28, ⟨.struct [(0, 3), (1, 3), (2, 4), (3, 3), (4, 5)], 5, 40, .agg #[.int .i64 0, .int .i64 0, .bool false, .int .i64 0, .int .u8 0]⟩), (22, ⟨.slice 28, 1, 24, .slice none 0 0⟩), (3, ⟨.int .i64, 1, 8, .int .i64 0⟩), (4, ⟨.bool, 1, 1, .bool false⟩), (5, ⟨.int .u8, 1, 1, .int .u8 0⟩)], live := [0, 1, 2, 3, 4], dt := [], nw := true }
theorem cfg7_ok : TTok Try.prog cfg7.tt := (TTok.cons tok28 (TTok.cons tok22 (TTok.cons tok3 (TTok.cons tok4 (TTok.cons tok5 TTok.nil)))))
def cfg8 : Cfg := { tt := [(40, ⟨.slice 22, 1, 24, .slice none 0 0⟩), (3, ⟨.int .i64, 1, 8, .int .i64 0⟩), (22, ⟨.slice 28, 1, 24, .slice none 0 0⟩), (28, ⟨.struct [(0, 3), (1, 3), (2, 4), (3, 3), (4, 5)], 5, 40, .agg #[.int .i64 0, .int .i64 0, .bool false, .int .i64 0, .int .u8 0]⟩), (4, ⟨.bool, 1, 1, .bool false⟩), (5, ⟨.int .u8, 1, 1, .int .u8 0⟩)], live := [0, 2, 3, 5, 6, 7, 8, 9], dt := [], nw := true }
theorem cfg8_ok : TTok Try.prog cfg8.tt := (TTok.cons tok40 (TTok.cons tok3 (TTok.cons tok22 (TTok.cons tok28 (TTok.cons tok4 (TTok.cons tok5 TTok.nil))))))
def cfg9 : Cfg := { tt := [(41, ⟨.map 3 42, 1, 8, .map none⟩), (22, ⟨.slice 28, 1, 24, .slice none 0 0⟩), (3, ⟨.int .i64, 1, 8, .int .i64 0⟩), (28, ⟨.struct [(0, 3), (1, 3), (2, 4), (3, 3), (4, 5)], 5, 40, .agg #[.int .i64 0, .int .i64 0, .bool false, .int .i64 0, .int .u8 0]⟩), (42, ⟨.ptr 44, 1, 8, .pointer none⟩), (44, ⟨.struct [(0, 28), (5, 3)], 6, 48, .agg #[.int .i64 0, .int .i64 0, .bool false, .int .i64 0, .int .u8 0, .int .i64 0]⟩), (4, ⟨.bool, 1, 1, .bool false⟩), (5, ⟨.int .u8, 1, 1, .int .u8 0⟩)], live := [0, 2, 3, 4, 5, 6, 7, 8, 10, 11, 12, 13, 22, 39, 77], dt := [(9, [(0, 0), (1, 0), (2, 0), (3, 0), (4, 0), (5, 0), (6, 0), (7, 0)]), (11, [(0, 0), (1, 0), (2, 0), (3, 0), (4, 0), (5, 0), (6, 0), (7, 0), (8, 0), (9, 0), (10, 0), (11, 0), (12, 0), (13, 0), (14, 0), (15, 0), (16, 0), (17, 0), (18, 0), (19, 0), (20, 0), (21, 0)]), (12, [(0, 0), (1, 0), (2, 0), (3, 0), (4, 0), (5, 0), (6, 0), (7, 0), (8, 0), (9, 0), (10, 0), (11, 0)])], nw := true }
theorem cfg9_ok : TTok Try.prog cfg9.tt := (TTok.cons tok41 (TTok.cons tok22 (TTok.cons tok3 (TTok.cons tok28 (TTok.cons tok42 (TTok.cons tok44 (TTok.cons tok4 (TTok.cons tok5 TTok.nil))))))))
def cfg10 : Cfg := { tt := [(22, ⟨.slice 28, 1, 24, .slice none 0 0⟩), (47, ⟨.func, 1, 8, .nilFunc⟩), (28, ⟨.struct [(0, 3), (1, 3), (2, 4), (3, 3), (4, 5)], 5, 40, .agg #[.int .i64 0, .int .i64 0, .bool false, .int .i64 0, .int .u8 0]⟩), (3, ⟨.int .i64, 1, 8, .int .i64 0⟩), (4, ⟨.bool, 1, 1, .bool false⟩), (5, ⟨.int .u8, 1, 1, .int .u8 0⟩)], live := [0, 2, 3], dt := [], nw := true }
theorem cfg10_ok : TTok Try.prog cfg10.tt := (TTok.cons tok22 (TTok.cons tok47 (TTok.cons tok28 (TTok.cons tok3 (TTok.cons tok4 (TTok.cons tok5 TTok.nil))))))
def cfg11 : Cfg := { tt := [(22, ⟨.slice 28, 1, 24, .slice none 0 0⟩), (3, ⟨.int .i64, 1, 8, .int .i64 0⟩), (28, ⟨.struct [(0, 3), (1, 3), (2, 4), (3, 3), (4, 5)], 5, 40, .agg #[.int .i64 0, .int .i64 0, .bool false, .int .i64 0, .int .u8 0]⟩), (4, ⟨.bool, 1, 1, .bool false⟩), (5, ⟨.int .u8, 1, 1, .int .u8 0⟩)], live := [0, 1, 4, 5, 10, 12, 13, 14, 24], dt := [(6, [(0, 0), (1, 0), (2, 0), (3, 0), (4, 0), (5, 0), (6, 0), (7, 0), (8, 0)])], nw := true }
theorem cfg11_ok : TTok Try.prog cfg11.tt := (TTok.cons tok22 (TTok.cons tok3 (TTok.cons tok28 (TTok.cons tok4 (TTok.cons tok5 TTok.nil)))))
def cfg15 : Cfg := { tt := [(22, ⟨.slice 28, 1, 24, .slice none 0 0⟩), (28, ⟨.struct [(0, 3), (1, 3), (2, 4), (3, 3), (4, 5)], 5, 40, .agg #[.int .i64 0, .int .i64 0, .bool false, .int .i64 0, .int .u8 0]⟩), (3, ⟨.int .i64, 1, 8, .int .i64 0⟩), (4, ⟨.bool, 1, 1, .bool false⟩), (5, ⟨.int .u8, 1, 1, .int .u8 0⟩)], live := [0, 2, 4], dt := [], nw := true }
theorem cfg15_ok : TTok Try.prog cfg15.tt := (TTok.cons tok22 (TTok.cons tok28 (TTok.cons tok3 (TTok.cons tok4 (TTok.cons tok5 TTok.nil)))))
def cfg16 : Cfg := { tt := [(22, ⟨.slice 28, 1, 24, .slice none 0 0⟩), (3, ⟨.int .i64, 1, 8, .int .i64 0⟩), (47, ⟨.func, 1, 8, .nilFunc⟩), (28, ⟨.struct [(0, 3), (1, 3), (2, 4), (3, 3), (4, 5)], 5, 40, .agg #[.int .i64 0, .int .i64 0, .bool false, .int .i64 0, .int .u8 0]⟩), (4, ⟨.bool, 1, 1, .bool false⟩), (5, ⟨.int .u8, 1, 1, .int .u8 0⟩)], live := [0, 1], dt := [], nw := true }
theorem cfg16_ok : TTok Try.prog cfg16.tt := (TTok.cons tok22 (TTok.cons tok3 (TTok.cons tok47 (TTok.cons tok28 (TTok.cons tok4 (TTok.cons tok5 TTok.nil))))))
def cfg17 : Cfg := { tt := [(28, ⟨.struct [(0, 3), (1, 3), (2, 4), (3, 3), (4, 5)], 5, 40, .agg #[.int .i64 0, .int .i64 0, .bool false, .int .i64 0, .int .u8 0]⟩), (3, ⟨.int .i64, 1, 8, .int .i64 0⟩), (4, ⟨.bool, 1, 1, .bool false⟩), (5, ⟨.int .u8, 1, 1, .int .u8 0⟩)], live := [0, 1, 2, 3, 4], dt := [], nw := true }
theorem cfg17_ok : TTok Try.prog cfg17.tt := (TTok.cons tok28 (TTok.cons tok3 (TTok.cons tok4 (TTok.cons tok5 TTok.nil))))
def cfg18 : Cfg := { tt := [(3, ⟨.int .i64, 1, 8, .int .i64 0⟩)], live := [0, 1, 4, 5, 6, 11, 12, 13, 16, 19], dt := [], nw := true }
theorem cfg18_ok : TTok Try.prog cfg18.tt := (TTok.cons tok3 TTok.nil)
def cfg22 : Cfg := { tt := [(3, ⟨.int .i64, 1, 8, .int .i64 0⟩), (22, ⟨.slice 28, 1, 24, .slice none 0 0⟩), (47, ⟨.func, 1, 8, .nilFunc⟩), (28, ⟨.struct [(0, 3), (1, 3), (2, 4), (3, 3), (4, 5)], 5, 40, .agg #[.int .i64 0, .int .i64 0, .bool false, .int .i64 0, .int .u8 0]⟩), (4, ⟨.bool, 1, 1, .bool false⟩), (5, ⟨.int .u8, 1, 1, .int .u8 0⟩)], live := [0, 1, 2, 6, 7, 8, 9, 13, 30, 35, 54], dt := [], nw := true }
theorem cfg22_ok : TTok Try.prog cfg22.tt := (TTok.cons tok3 (TTok.cons tok22 (TTok.cons tok47 (TTok.cons tok28 (TTok.cons tok4 (TTok.cons tok5 TTok.nil))))))
def cfg23 : Cfg := { tt := [(3, ⟨.int .i64, 1, 8, .int .i64 0⟩)], live := [0, 2], dt := [], nw := true }
theorem cfg23_ok : TTok Try.prog cfg23.tt := (TTok.cons tok3 TTok.nil)
def cfg28 : Cfg := { tt := [(3, ⟨.int .i64, 1, 8, .int .i64 0⟩), (22, ⟨.slice 28, 1, 24, .slice none 0 0⟩), (28, ⟨.struct [(0, 3), (1, 3), (2, 4), (3, 3), (4, 5)], 5, 40, .agg #[.int .i64 0, .int .i64 0, .bool false, .int .i64 0, .int .u8 0]⟩), (4, ⟨.bool, 1, 1, .bool false⟩), (5, ⟨.int .u8, 1, 1, .int .u8 0⟩)], live := [0, 1, 2, 3, 8, 9, 14, 34], dt := [(4, [(0, 0), (1, 0), (2, 0), (3, 0), (4, 0), (5, 0), (6, 0), (7, 0), (8, 0), (9, 0), (10, 0), (11, 0), (12, 0), (13, 0), (14, 1), (15, 0), (16, 0)]), (6, [(0, 0), (1, 0), (2, 2), (3, 2), (4, 2), (5, 0), (6, 0), (7, 0), (8, 0), (9, 0), (10, 0), (11, 0), (12, 0), (13, 0), (14, 0), (15, 3), (16, 2), (17, 3)])], nw := true }
theorem cfg28_ok : TTok Try.prog cfg28.tt := (TTok.cons tok3 (TTok.cons tok22 (TTok.cons tok28 (TTok.cons tok4 (TTok.cons tok5 TTok.nil)))))
def cfg29 : Cfg := { tt := [(3, ⟨.int .i64, 1, 8, .int .i64 0⟩), (65, ⟨.int .u64, 1, 8, .int .u64 0⟩), (22, ⟨.slice 28, 1, 24, .slice none 0 0⟩), (28, ⟨.struct [(0, 3), (1, 3), (2, 4), (3, 3), (4, 5)], 5, 40, .agg #[.int .i64 0, .int .i64 0, .bool false, .int .i64 0, .int .u8 0]⟩), (47, ⟨.func, 1, 8, .nilFunc⟩), (4, ⟨.bool, 1, 1, .bool false⟩), (5, ⟨.int .u8, 1, 1, .int .u8 0⟩)], live := [0, 1, 2, 3, 4, 10, 11, 12, 13, 14, 15, 16, 17, 18, 19, 20, 21, 22, 23, 24, 28, 33, 50, 58, 80, 85, 103, 110, 140, 151, 171, 185, 199, 213], dt := [(5, [(0, 0), (1, 0), (2, 0), (3, 0), (4, 0), (5, 0), (6, 0), (7, 0), (8, 0), (9, 1), (10, 0)]), (11, [(0, 0), (1, 0), (2, 2), (3, 2), (4, 2), (5, 0), (6, 0), (7, 0), (8, 0), (9, 0), (10, 0), (11, 0), (12, 0), (13, 0), (14, 0), (15, 3), (16, 2), (17, 3)]), (17, [(0, 0), (1, 0), (2, 0), (3, 0), (4, 0), (5, 0), (6, 0), (7, 0), (8, 0), (9, 1), (10, 0), (11, 0)]), (23, [(0, 0), (1, 0), (2, 2), (3, 2), (4, 2), (5, 0), (6, 0), (7, 0), (8, 0), (9, 0), (10, 0), (11, 0), (12, 0), (13, 0), (14, 0), (15, 3), (16, 2), (17, 3)]), (35, [(0, 0), (1, 0), (2, 0), (3, 0), (4, 0), (5, 0), (6, 0), (7, 0), (8, 0), (9, 0), (10, 0), (11, 1), (12, 0), (13, 0)])], nw := true }
theorem cfg29_ok : TTok Try.prog cfg29.tt := (TTok.cons tok3 (TTok.cons tok65 (TTok.cons tok22 (TTok.cons tok28 (TTok.cons tok47 (TTok.cons tok4 (TTok.cons tok5 TTok.nil)))))))
def cfg33 : Cfg := { tt := [(3, ⟨.int .i64, 1, 8, .int .i64 0⟩), (22, ⟨.slice 28, 1, 24, .slice none 0 0⟩), (47, ⟨.func, 1, 8, .nilFunc⟩), (28, ⟨.struct [(0, 3), (1, 3), (2, 4), (3, 3), (4, 5)], 5, 40, .agg #[.int .i64 0, .int .i64 0, .bool false, .int .i64 0, .int .u8 0]⟩), (4, ⟨.bool, 1, 1, .bool false⟩), (5, ⟨.int .u8, 1, 1, .int .u8 0⟩)], live := [0, 1, 2, 3, 4, 10, 11, 20, 23], dt := [], nw := true }
theorem cfg33_ok : TTok Try.prog cfg33.tt := (TTok.cons tok3 (TTok.cons tok22 (TTok.cons tok47 (TTok.cons tok28 (TTok.cons tok4 (TTok.cons tok5 TTok.nil))))))
def cfg45 : Cfg := { tt := [(3, ⟨.int .i64, 1, 8, .int .i64 0⟩), (22, ⟨.slice 28, 1, 24, .slice none 0 0⟩), (28, ⟨.struct [(0, 3), (1, 3), (2, 4), (3, 3), (4, 5)], 5, 40, .agg #[.int .i64 0, .int .i64 0, .bool false, .int .i64 0, .int .u8 0]⟩), (4, ⟨.bool, 1, 1, .bool false⟩), (5, ⟨.int .u8, 1, 1, .int .u8 0⟩)], live := [0, 1, 2, 3, 10, 13], dt := [(3, [(0, 0), (1, 0), (2, 0), (3, 0), (4, 2), (5, 2), (6, 2), (7, 2), (8, 0), (9, 0), (10, 0), (11, 0), (12, 0), (13, 0), (14, 0), (15, 0), (16, 0), (17, 0), (18, 0), (19, 0), (20, 0), (21, 3), (22, 2), (23, 3)])], nw := true }
theorem cfg45_ok : TTok Try.prog cfg45.tt := (TTok.cons tok3 (TTok.cons tok22 (TTok.cons tok28 (TTok.cons tok4 (TTok.cons tok5 TTok.nil)))))
theorem mixed : Try.prog.follows .mixedOrders = true := by kernel_rfl
def cfg3w : Cfg := { cfg3 with nw := false }
theorem cfg3w_ok : TTok Try.prog cfg3w.tt := cfg3_ok
end Go.Proofs
