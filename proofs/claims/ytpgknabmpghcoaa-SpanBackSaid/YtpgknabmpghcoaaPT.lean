/- Tables of the program types and of its functions orders. -/
import Derived.Test.YtpgknabmpghcoaaSxI
import Derived.Test.YtpgknabmpghcoaaSxF
import Derived.Test.YtpgknabmpghcoaaProg
namespace Go.Proofs
set_option linter.unusedVariables false
set_option linter.unusedSimpArgs false
open Go Go.SX Go.RowKit
theorem tok1 : TI.ok Try.prog 1 ⟨.func, 1, 8, .nilFunc⟩ := ⟨by kernel_rfl, by kernel_rfl⟩
theorem tok2 : TI.ok Try.prog 2 ⟨.int .i64, 1, 8, .int .i64 0⟩ := ⟨by kernel_rfl, by kernel_rfl⟩
theorem tok3 : TI.ok Try.prog 3 ⟨.int .i64, 1, 8, .int .i64 0⟩ := ⟨by kernel_rfl, by kernel_rfl⟩
theorem tok4 : TI.ok Try.prog 4 ⟨.bool, 1, 1, .bool false⟩ := ⟨by kernel_rfl, by kernel_rfl⟩
theorem tok5 : TI.ok Try.prog 5 ⟨.int .u8, 1, 1, .int .u8 0⟩ := ⟨by kernel_rfl, by kernel_rfl⟩
theorem tok6 : TI.ok Try.prog 6 ⟨.int .u8, 1, 1, .int .u8 0⟩ := ⟨by kernel_rfl, by kernel_rfl⟩
theorem tok7 : TI.ok Try.prog 7 ⟨.struct [(0, 2), (1, 3), (2, 4), (3, 6)], 4, 24, .agg #[.int .i64 0, .int .i64 0, .bool false, .int .u8 0]⟩ := ⟨by kernel_rfl, by kernel_rfl⟩
theorem tok8 : TI.ok Try.prog 8 ⟨.struct [(0, 2), (1, 3), (2, 4), (3, 6)], 4, 24, .agg #[.int .i64 0, .int .i64 0, .bool false, .int .u8 0]⟩ := ⟨by kernel_rfl, by kernel_rfl⟩
theorem tok9 : TI.ok Try.prog 9 ⟨.str, 1, 16, .string ⟨#[]⟩⟩ := ⟨by kernel_rfl, by kernel_rfl⟩
theorem tok10 : TI.ok Try.prog 10 ⟨.str, 1, 16, .string ⟨#[]⟩⟩ := ⟨by kernel_rfl, by kernel_rfl⟩
theorem tok11 : TI.ok Try.prog 11 ⟨.str, 1, 16, .string ⟨#[]⟩⟩ := ⟨by kernel_rfl, by kernel_rfl⟩
theorem tok12 : TI.ok Try.prog 12 ⟨.int .u64, 1, 8, .int .u64 0⟩ := ⟨by kernel_rfl, by kernel_rfl⟩
theorem tok13 : TI.ok Try.prog 13 ⟨.struct [(0, 9), (1, 12)], 2, 24, .agg #[.string ⟨#[]⟩, .int .u64 0]⟩ := ⟨by kernel_rfl, by kernel_rfl⟩
theorem tok14 : TI.ok Try.prog 14 ⟨.struct [(0, 9), (1, 12)], 2, 24, .agg #[.string ⟨#[]⟩, .int .u64 0]⟩ := ⟨by kernel_rfl, by kernel_rfl⟩
theorem tok15 : TI.ok Try.prog 15 ⟨.ptr 68, 1, 8, .pointer none⟩ := ⟨by kernel_rfl, by kernel_rfl⟩
theorem tok16 : TI.ok Try.prog 16 ⟨.ptr 71, 1, 8, .pointer none⟩ := ⟨by kernel_rfl, by kernel_rfl⟩
theorem tok17 : TI.ok Try.prog 17 ⟨.ptr 81, 1, 8, .pointer none⟩ := ⟨by kernel_rfl, by kernel_rfl⟩
theorem tok18 : TI.ok Try.prog 18 ⟨.struct [(0, 17)], 1, 8, .agg #[.pointer none]⟩ := ⟨by kernel_rfl, by kernel_rfl⟩
theorem tok19 : TI.ok Try.prog 19 ⟨.struct [(0, 17)], 1, 8, .agg #[.pointer none]⟩ := ⟨by kernel_rfl, by kernel_rfl⟩
theorem tok20 : TI.ok Try.prog 20 ⟨.iface, 1, 16, .nilIface⟩ := ⟨by kernel_rfl, by kernel_rfl⟩
theorem tok21 : TI.ok Try.prog 21 ⟨.int .i32, 1, 4, .int .i32 0⟩ := ⟨by kernel_rfl, by kernel_rfl⟩
theorem tok22 : TI.ok Try.prog 22 ⟨.func, 1, 8, .nilFunc⟩ := ⟨by kernel_rfl, by kernel_rfl⟩
theorem tok23 : TI.ok Try.prog 23 ⟨.slice 35, 1, 24, .slice none 0 0⟩ := ⟨by kernel_rfl, by kernel_rfl⟩
theorem tok24 : TI.ok Try.prog 24 ⟨.int .i64, 1, 8, .int .i64 0⟩ := ⟨by kernel_rfl, by kernel_rfl⟩
theorem tok26 : TI.ok Try.prog 26 ⟨.func, 1, 8, .nilFunc⟩ := ⟨by kernel_rfl, by kernel_rfl⟩
theorem tok27 : TI.ok Try.prog 27 ⟨.func, 1, 8, .nilFunc⟩ := ⟨by kernel_rfl, by kernel_rfl⟩
theorem tok28 : TI.ok Try.prog 28 ⟨.func, 1, 8, .nilFunc⟩ := ⟨by kernel_rfl, by kernel_rfl⟩
theorem tok29 : TI.ok Try.prog 29 ⟨.slice 3, 1, 24, .slice none 0 0⟩ := ⟨by kernel_rfl, by kernel_rfl⟩
theorem tok30 : TI.ok Try.prog 30 ⟨.func, 1, 8, .nilFunc⟩ := ⟨by kernel_rfl, by kernel_rfl⟩
theorem tok31 : TI.ok Try.prog 31 ⟨.func, 1, 8, .nilFunc⟩ := ⟨by kernel_rfl, by kernel_rfl⟩
theorem tok32 : TI.ok Try.prog 32 ⟨.func, 1, 8, .nilFunc⟩ := ⟨by kernel_rfl, by kernel_rfl⟩
theorem tok33 : TI.ok Try.prog 33 ⟨.func, 1, 8, .nilFunc⟩ := ⟨by kernel_rfl, by kernel_rfl⟩
theorem tok34 : TI.ok Try.prog 34 ⟨.struct [(0, 3), (1, 3), (2, 3), (3, 3)], 4, 32, .agg #[.int .i64 0, .int .i64 0, .int .i64 0, .int .i64 0]⟩ := ⟨by kernel_rfl, by kernel_rfl⟩
theorem tok35 : TI.ok Try.prog 35 ⟨.struct [(0, 3), (1, 3), (2, 3), (3, 3)], 4, 32, .agg #[.int .i64 0, .int .i64 0, .int .i64 0, .int .i64 0]⟩ := ⟨by kernel_rfl, by kernel_rfl⟩
theorem tok36 : TI.ok Try.prog 36 ⟨.func, 1, 8, .nilFunc⟩ := ⟨by kernel_rfl, by kernel_rfl⟩
theorem tok37 : TI.ok Try.prog 37 ⟨.func, 1, 8, .nilFunc⟩ := ⟨by kernel_rfl, by kernel_rfl⟩
theorem tok39 : TI.ok Try.prog 39 ⟨.func, 1, 8, .nilFunc⟩ := ⟨by kernel_rfl, by kernel_rfl⟩
theorem tok41 : TI.ok Try.prog 41 ⟨.func, 1, 8, .nilFunc⟩ := ⟨by kernel_rfl, by kernel_rfl⟩
theorem tok42 : TI.ok Try.prog 42 ⟨.func, 1, 8, .nilFunc⟩ := ⟨by kernel_rfl, by kernel_rfl⟩
theorem tok43 : TI.ok Try.prog 43 ⟨.func, 1, 8, .nilFunc⟩ := ⟨by kernel_rfl, by kernel_rfl⟩
theorem tok44 : TI.ok Try.prog 44 ⟨.slice 46, 1, 24, .slice none 0 0⟩ := ⟨by kernel_rfl, by kernel_rfl⟩
theorem tok45 : TI.ok Try.prog 45 ⟨.map 3 4, 1, 8, .map none⟩ := ⟨by kernel_rfl, by kernel_rfl⟩
theorem tok46 : TI.ok Try.prog 46 ⟨.arr 3 3, 3, 24, .agg #[.int .i64 0, .int .i64 0, .int .i64 0]⟩ := ⟨by kernel_rfl, by kernel_rfl⟩
theorem tok47 : TI.ok Try.prog 47 ⟨.func, 1, 8, .nilFunc⟩ := ⟨by kernel_rfl, by kernel_rfl⟩
theorem tok48 : TI.ok Try.prog 48 ⟨.func, 1, 8, .nilFunc⟩ := ⟨by kernel_rfl, by kernel_rfl⟩
theorem tok50 : TI.ok Try.prog 50 ⟨.func, 1, 8, .nilFunc⟩ := ⟨by kernel_rfl, by kernel_rfl⟩
theorem tok51 : TI.ok Try.prog 51 ⟨.func, 1, 8, .nilFunc⟩ := ⟨by kernel_rfl, by kernel_rfl⟩
theorem tok52 : TI.ok Try.prog 52 ⟨.func, 1, 8, .nilFunc⟩ := ⟨by kernel_rfl, by kernel_rfl⟩
theorem tok53 : TI.ok Try.prog 53 ⟨.func, 1, 8, .nilFunc⟩ := ⟨by kernel_rfl, by kernel_rfl⟩
theorem tok54 : TI.ok Try.prog 54 ⟨.func, 1, 8, .nilFunc⟩ := ⟨by kernel_rfl, by kernel_rfl⟩
theorem tok55 : TI.ok Try.prog 55 ⟨.func, 1, 8, .nilFunc⟩ := ⟨by kernel_rfl, by kernel_rfl⟩
theorem tok56 : TI.ok Try.prog 56 ⟨.func, 1, 8, .nilFunc⟩ := ⟨by kernel_rfl, by kernel_rfl⟩
theorem tok57 : TI.ok Try.prog 57 ⟨.func, 1, 8, .nilFunc⟩ := ⟨by kernel_rfl, by kernel_rfl⟩
theorem tok58 : TI.ok Try.prog 58 ⟨.func, 1, 8, .nilFunc⟩ := ⟨by kernel_rfl, by kernel_rfl⟩
theorem tok59 : TI.ok Try.prog 59 ⟨.func, 1, 8, .nilFunc⟩ := ⟨by kernel_rfl, by kernel_rfl⟩
theorem tok60 : TI.ok Try.prog 60 ⟨.func, 1, 8, .nilFunc⟩ := ⟨by kernel_rfl, by kernel_rfl⟩
theorem tok61 : TI.ok Try.prog 61 ⟨.func, 1, 8, .nilFunc⟩ := ⟨by kernel_rfl, by kernel_rfl⟩
theorem tok62 : TI.ok Try.prog 62 ⟨.func, 1, 8, .nilFunc⟩ := ⟨by kernel_rfl, by kernel_rfl⟩
theorem tok63 : TI.ok Try.prog 63 ⟨.func, 1, 8, .nilFunc⟩ := ⟨by kernel_rfl, by kernel_rfl⟩
theorem tok64 : TI.ok Try.prog 64 ⟨.func, 1, 8, .nilFunc⟩ := ⟨by kernel_rfl, by kernel_rfl⟩
theorem tok65 : TI.ok Try.prog 65 ⟨.func, 1, 8, .nilFunc⟩ := ⟨by kernel_rfl, by kernel_rfl⟩
theorem tok66 : TI.ok Try.prog 66 ⟨.func, 1, 8, .nilFunc⟩ := ⟨by kernel_rfl, by kernel_rfl⟩
theorem tok67 : TI.ok Try.prog 67 ⟨.struct [(0, 17), (1, 17), (2, 17), (3, 9)], 4, 40, .agg #[.pointer none, .pointer none, .pointer none, .string ⟨#[]⟩]⟩ := ⟨by kernel_rfl, by kernel_rfl⟩
theorem tok68 : TI.ok Try.prog 68 ⟨.struct [(0, 17), (1, 17), (2, 17), (3, 9)], 4, 40, .agg #[.pointer none, .pointer none, .pointer none, .string ⟨#[]⟩]⟩ := ⟨by kernel_rfl, by kernel_rfl⟩
theorem tok69 : TI.ok Try.prog 69 ⟨.arr 0 16, 0, 0, .agg #[]⟩ := ⟨by kernel_rfl, by kernel_rfl⟩
theorem tok70 : TI.ok Try.prog 70 ⟨.struct [(0, 69)], 0, 0, .agg #[]⟩ := ⟨by kernel_rfl, by kernel_rfl⟩
theorem tok71 : TI.ok Try.prog 71 ⟨.struct [(0, 69)], 0, 0, .agg #[]⟩ := ⟨by kernel_rfl, by kernel_rfl⟩
theorem tok72 : TI.ok Try.prog 72 ⟨.func, 1, 8, .nilFunc⟩ := ⟨by kernel_rfl, by kernel_rfl⟩
theorem tok73 : TI.ok Try.prog 73 ⟨.int .u32, 1, 4, .int .u32 0⟩ := ⟨by kernel_rfl, by kernel_rfl⟩
theorem tok74 : TI.ok Try.prog 74 ⟨.int .u8, 1, 1, .int .u8 0⟩ := ⟨by kernel_rfl, by kernel_rfl⟩
theorem tok75 : TI.ok Try.prog 75 ⟨.int .u8, 1, 1, .int .u8 0⟩ := ⟨by kernel_rfl, by kernel_rfl⟩
theorem tok76 : TI.ok Try.prog 76 ⟨.func, 1, 8, .nilFunc⟩ := ⟨by kernel_rfl, by kernel_rfl⟩
theorem tok77 : TI.ok Try.prog 77 ⟨.ptr 5, 1, 8, .pointer none⟩ := ⟨by kernel_rfl, by kernel_rfl⟩
theorem tok78 : TI.ok Try.prog 78 ⟨.int .i32, 1, 4, .int .i32 0⟩ := ⟨by kernel_rfl, by kernel_rfl⟩
theorem tok79 : TI.ok Try.prog 79 ⟨.int .i32, 1, 4, .int .i32 0⟩ := ⟨by kernel_rfl, by kernel_rfl⟩
theorem tok80 : TI.ok Try.prog 80 ⟨.struct [(0, 12), (1, 12), (2, 73), (3, 74), (4, 5), (5, 5), (6, 75), (7, 76), (8, 77), (9, 78), (10, 79)], 11, 48, .agg #[.int .u64 0, .int .u64 0, .int .u32 0, .int .u8 0, .int .u8 0, .int .u8 0, .int .u8 0, .nilFunc, .pointer none, .int .i32 0, .int .i32 0]⟩ := ⟨by kernel_rfl, by kernel_rfl⟩
theorem tok81 : TI.ok Try.prog 81 ⟨.struct [(0, 12), (1, 12), (2, 73), (3, 74), (4, 5), (5, 5), (6, 75), (7, 76), (8, 77), (9, 78), (10, 79)], 11, 48, .agg #[.int .u64 0, .int .u64 0, .int .u32 0, .int .u8 0, .int .u8 0, .int .u8 0, .int .u8 0, .nilFunc, .pointer none, .int .i32 0, .int .i32 0]⟩ := ⟨by kernel_rfl, by kernel_rfl⟩
def cfg3 : Cfg := { tt := [(3, ⟨.int .i64, 1, 8, .int .i64 0⟩), (23, ⟨.slice 35, 1, 24, .slice none 0 0⟩), (24, ⟨.int .i64, 1, 8, .int .i64 0⟩), (4, ⟨.bool, 1, 1, .bool false⟩), (35, ⟨.struct [(0, 3), (1, 3), (2, 3), (3, 3)], 4, 32, .agg #[.int .i64 0, .int .i64 0, .int .i64 0, .int .i64 0]⟩)], live := [0, 1, 2, 3, 4, 5, 6, 14, 15, 16, 17, 18, 19, 20, 21, 50, 62], dt := [], nw := true }
theorem cfg3_ok : TTok Try.prog cfg3.tt := (TTok.cons tok3 (TTok.cons tok23 (TTok.cons tok24 (TTok.cons tok4 (TTok.cons tok35 TTok.nil)))))
def cfg4 : Cfg := { tt := [(23, ⟨.slice 35, 1, 24, .slice none 0 0⟩), (3, ⟨.int .i64, 1, 8, .int .i64 0⟩), (29, ⟨.slice 3, 1, 24, .slice none 0 0⟩), (24, ⟨.int .i64, 1, 8, .int .i64 0⟩), (35, ⟨.struct [(0, 3), (1, 3), (2, 3), (3, 3)], 4, 32, .agg #[.int .i64 0, .int .i64 0, .int .i64 0, .int .i64 0]⟩)], live := [0, 1, 4, 5, 6, 7, 8, 9, 10, 11, 13, 15, 16, 17, 31, 59, 67, 74, 75, 76, 77, 80, 81, 82, 83, 95], dt := [], nw := true }
theorem cfg4_ok : TTok Try.prog cfg4.tt := (TTok.cons tok23 (TTok.cons tok3 (TTok.cons tok29 (TTok.cons tok24 (TTok.cons tok35 TTok.nil)))))
def cfg5 : Cfg := { tt := [(23, ⟨.slice 35, 1, 24, .slice none 0 0⟩), (3, ⟨.int .i64, 1, 8, .int .i64 0⟩), (24, ⟨.int .i64, 1, 8, .int .i64 0⟩), (35, ⟨.struct [(0, 3), (1, 3), (2, 3), (3, 3)], 4, 32, .agg #[.int .i64 0, .int .i64 0, .int .i64 0, .int .i64 0]⟩), (29, ⟨.slice 3, 1, 24, .slice none 0 0⟩)], live := [0, 1, 2, 3, 4, 10, 11, 12, 13, 15, 16, 17, 18, 19, 20, 21, 22, 23, 25, 27, 28, 30, 40, 52, 78, 83, 84, 85, 86, 108, 118, 121, 130, 131, 132, 133, 170, 172, 173, 174, 175, 206], dt := [(7, [(0, 0), (1, 1), (2, 1), (3, 0), (4, 0), (5, 0), (6, 0), (7, 0), (8, 0), (9, 0), (10, 0), (11, 0), (12, 0), (13, 0), (14, 0), (15, 0), (16, 0), (17, 1), (18, 1), (19, 0)])], nw := true }
theorem cfg5_ok : TTok Try.prog cfg5.tt := (TTok.cons tok23 (TTok.cons tok3 (TTok.cons tok24 (TTok.cons tok35 (TTok.cons tok29 TTok.nil)))))
def cfg6 : Cfg := { tt := [(3, ⟨.int .i64, 1, 8, .int .i64 0⟩), (44, ⟨.slice 46, 1, 24, .slice none 0 0⟩), (24, ⟨.int .i64, 1, 8, .int .i64 0⟩), (45, ⟨.map 3 4, 1, 8, .map none⟩), (46, ⟨.arr 3 3, 3, 24, .agg #[.int .i64 0, .int .i64 0, .int .i64 0]⟩), (23, ⟨.slice 35, 1, 24, .slice none 0 0⟩), (35, ⟨.struct [(0, 3), (1, 3), (2, 3), (3, 3)], 4, 32, .agg #[.int .i64 0, .int .i64 0, .int .i64 0, .int .i64 0]⟩), (4, ⟨.bool, 1, 1, .bool false⟩)], live := [0, 1, 2, 6, 7, 8, 9, 10, 11, 12, 13, 14, 15, 16, 17, 18, 19, 20, 21, 22, 23, 25, 26, 34, 47, 49, 50, 51, 52, 85, 90, 110, 134, 135, 136, 137, 138, 146, 158], dt := [], nw := true }
theorem cfg6_ok : TTok Try.prog cfg6.tt := (TTok.cons tok3 (TTok.cons tok44 (TTok.cons tok24 (TTok.cons tok45 (TTok.cons tok46 (TTok.cons tok23 (TTok.cons tok35 (TTok.cons tok4 TTok.nil))))))))
def cfg7 : Cfg := { tt := [(23, ⟨.slice 35, 1, 24, .slice none 0 0⟩), (3, ⟨.int .i64, 1, 8, .int .i64 0⟩), (29, ⟨.slice 3, 1, 24, .slice none 0 0⟩), (24, ⟨.int .i64, 1, 8, .int .i64 0⟩), (35, ⟨.struct [(0, 3), (1, 3), (2, 3), (3, 3)], 4, 32, .agg #[.int .i64 0, .int .i64 0, .int .i64 0, .int .i64 0]⟩)], live := [0, 1, 2, 3, 4, 5, 12, 13, 14, 15, 16, 17, 18, 19, 20, 21, 30, 54, 73, 100, 102, 103, 104], dt := [], nw := true }
theorem cfg7_ok : TTok Try.prog cfg7.tt := (TTok.cons tok23 (TTok.cons tok3 (TTok.cons tok29 (TTok.cons tok24 (TTok.cons tok35 TTok.nil)))))
def cfg8 : Cfg := { tt := [(3, ⟨.int .i64, 1, 8, .int .i64 0⟩), (23, ⟨.slice 35, 1, 24, .slice none 0 0⟩), (35, ⟨.struct [(0, 3), (1, 3), (2, 3), (3, 3)], 4, 32, .agg #[.int .i64 0, .int .i64 0, .int .i64 0, .int .i64 0]⟩), (24, ⟨.int .i64, 1, 8, .int .i64 0⟩)], live := [0, 1, 2, 3, 5, 6, 7, 8, 9], dt := [], nw := true }
theorem cfg8_ok : TTok Try.prog cfg8.tt := (TTok.cons tok3 (TTok.cons tok23 (TTok.cons tok35 (TTok.cons tok24 TTok.nil))))
def cfg9 : Cfg := { tt := [(3, ⟨.int .i64, 1, 8, .int .i64 0⟩), (35, ⟨.struct [(0, 3), (1, 3), (2, 3), (3, 3)], 4, 32, .agg #[.int .i64 0, .int .i64 0, .int .i64 0, .int .i64 0]⟩), (23, ⟨.slice 35, 1, 24, .slice none 0 0⟩)], live := [0, 2, 3, 9], dt := [], nw := true }
theorem cfg9_ok : TTok Try.prog cfg9.tt := (TTok.cons tok3 (TTok.cons tok35 (TTok.cons tok23 TTok.nil)))
def cfg10 : Cfg := { tt := [(23, ⟨.slice 35, 1, 24, .slice none 0 0⟩), (3, ⟨.int .i64, 1, 8, .int .i64 0⟩), (29, ⟨.slice 3, 1, 24, .slice none 0 0⟩), (35, ⟨.struct [(0, 3), (1, 3), (2, 3), (3, 3)], 4, 32, .agg #[.int .i64 0, .int .i64 0, .int .i64 0, .int .i64 0]⟩)], live := [0, 1, 2, 3, 4, 10, 11, 12, 13, 24, 45, 66], dt := [], nw := true }
theorem cfg10_ok : TTok Try.prog cfg10.tt := (TTok.cons tok23 (TTok.cons tok3 (TTok.cons tok29 (TTok.cons tok35 TTok.nil))))
def cfg11 : Cfg := { tt := [(23, ⟨.slice 35, 1, 24, .slice none 0 0⟩), (3, ⟨.int .i64, 1, 8, .int .i64 0⟩), (35, ⟨.struct [(0, 3), (1, 3), (2, 3), (3, 3)], 4, 32, .agg #[.int .i64 0, .int .i64 0, .int .i64 0, .int .i64 0]⟩)], live := [0, 2, 3, 5, 8, 9, 10, 11, 12, 38], dt := [], nw := true }
theorem cfg11_ok : TTok Try.prog cfg11.tt := (TTok.cons tok23 (TTok.cons tok3 (TTok.cons tok35 TTok.nil)))
def cfg12 : Cfg := { tt := [(23, ⟨.slice 35, 1, 24, .slice none 0 0⟩), (24, ⟨.int .i64, 1, 8, .int .i64 0⟩), (35, ⟨.struct [(0, 3), (1, 3), (2, 3), (3, 3)], 4, 32, .agg #[.int .i64 0, .int .i64 0, .int .i64 0, .int .i64 0]⟩), (3, ⟨.int .i64, 1, 8, .int .i64 0⟩)], live := [0, 2, 3, 4, 8], dt := [], nw := true }
theorem cfg12_ok : TTok Try.prog cfg12.tt := (TTok.cons tok23 (TTok.cons tok24 (TTok.cons tok35 (TTok.cons tok3 TTok.nil))))
def cfg13 : Cfg := { tt := [(23, ⟨.slice 35, 1, 24, .slice none 0 0⟩), (3, ⟨.int .i64, 1, 8, .int .i64 0⟩), (35, ⟨.struct [(0, 3), (1, 3), (2, 3), (3, 3)], 4, 32, .agg #[.int .i64 0, .int .i64 0, .int .i64 0, .int .i64 0]⟩)], live := [0, 1, 4, 5, 10, 12, 13, 14, 24], dt := [(6, [(0, 0), (1, 0), (2, 0), (3, 0), (4, 0), (5, 0), (6, 0), (7, 0), (8, 0)])], nw := true }
theorem cfg13_ok : TTok Try.prog cfg13.tt := (TTok.cons tok23 (TTok.cons tok3 (TTok.cons tok35 TTok.nil)))
def cfg14 : Cfg := { tt := [(23, ⟨.slice 35, 1, 24, .slice none 0 0⟩), (24, ⟨.int .i64, 1, 8, .int .i64 0⟩), (29, ⟨.slice 3, 1, 24, .slice none 0 0⟩), (56, ⟨.func, 1, 8, .nilFunc⟩), (35, ⟨.struct [(0, 3), (1, 3), (2, 3), (3, 3)], 4, 32, .agg #[.int .i64 0, .int .i64 0, .int .i64 0, .int .i64 0]⟩), (3, ⟨.int .i64, 1, 8, .int .i64 0⟩)], live := [0, 1, 2, 4, 5, 13], dt := [], nw := true }
theorem cfg14_ok : TTok Try.prog cfg14.tt := (TTok.cons tok23 (TTok.cons tok24 (TTok.cons tok29 (TTok.cons tok56 (TTok.cons tok35 (TTok.cons tok3 TTok.nil))))))
def cfg15 : Cfg := { tt := [(23, ⟨.slice 35, 1, 24, .slice none 0 0⟩), (3, ⟨.int .i64, 1, 8, .int .i64 0⟩), (35, ⟨.struct [(0, 3), (1, 3), (2, 3), (3, 3)], 4, 32, .agg #[.int .i64 0, .int .i64 0, .int .i64 0, .int .i64 0]⟩), (29, ⟨.slice 3, 1, 24, .slice none 0 0⟩)], live := [0, 1, 4, 5, 7, 8, 10, 11, 12, 13, 14, 15, 28, 36, 37, 38, 39, 47, 56], dt := [], nw := true }
theorem cfg15_ok : TTok Try.prog cfg15.tt := (TTok.cons tok23 (TTok.cons tok3 (TTok.cons tok35 (TTok.cons tok29 TTok.nil))))
def cfg16 : Cfg := { tt := [(23, ⟨.slice 35, 1, 24, .slice none 0 0⟩), (3, ⟨.int .i64, 1, 8, .int .i64 0⟩), (35, ⟨.struct [(0, 3), (1, 3), (2, 3), (3, 3)], 4, 32, .agg #[.int .i64 0, .int .i64 0, .int .i64 0, .int .i64 0]⟩)], live := [0, 1, 4, 5, 6], dt := [(2, [(0, 0), (1, 0), (2, 0), (3, 0), (4, 0), (5, 0)])], nw := true }
theorem cfg16_ok : TTok Try.prog cfg16.tt := (TTok.cons tok23 (TTok.cons tok3 (TTok.cons tok35 TTok.nil)))
def cfg17 : Cfg := { tt := [(23, ⟨.slice 35, 1, 24, .slice none 0 0⟩), (24, ⟨.int .i64, 1, 8, .int .i64 0⟩), (3, ⟨.int .i64, 1, 8, .int .i64 0⟩), (35, ⟨.struct [(0, 3), (1, 3), (2, 3), (3, 3)], 4, 32, .agg #[.int .i64 0, .int .i64 0, .int .i64 0, .int .i64 0]⟩)], live := [0, 1, 4, 5, 6, 7, 8, 9, 10, 21, 24, 25, 26, 27, 34], dt := [], nw := true }
theorem cfg17_ok : TTok Try.prog cfg17.tt := (TTok.cons tok23 (TTok.cons tok24 (TTok.cons tok3 (TTok.cons tok35 TTok.nil))))
def cfg18 : Cfg := { tt := [(23, ⟨.slice 35, 1, 24, .slice none 0 0⟩), (3, ⟨.int .i64, 1, 8, .int .i64 0⟩), (35, ⟨.struct [(0, 3), (1, 3), (2, 3), (3, 3)], 4, 32, .agg #[.int .i64 0, .int .i64 0, .int .i64 0, .int .i64 0]⟩), (24, ⟨.int .i64, 1, 8, .int .i64 0⟩)], live := [0, 1, 4, 5, 7, 8, 9, 10, 11, 17, 28], dt := [], nw := true }
theorem cfg18_ok : TTok Try.prog cfg18.tt := (TTok.cons tok23 (TTok.cons tok3 (TTok.cons tok35 (TTok.cons tok24 TTok.nil))))
def cfg19 : Cfg := { tt := [(23, ⟨.slice 35, 1, 24, .slice none 0 0⟩), (24, ⟨.int .i64, 1, 8, .int .i64 0⟩), (29, ⟨.slice 3, 1, 24, .slice none 0 0⟩), (3, ⟨.int .i64, 1, 8, .int .i64 0⟩), (35, ⟨.struct [(0, 3), (1, 3), (2, 3), (3, 3)], 4, 32, .agg #[.int .i64 0, .int .i64 0, .int .i64 0, .int .i64 0]⟩)], live := [0, 1, 4, 5, 7, 8, 10, 13, 14, 15, 16, 17, 27, 31, 32, 33, 34], dt := [], nw := true }
theorem cfg19_ok : TTok Try.prog cfg19.tt := (TTok.cons tok23 (TTok.cons tok24 (TTok.cons tok29 (TTok.cons tok3 (TTok.cons tok35 TTok.nil)))))
def cfg20 : Cfg := { tt := [(23, ⟨.slice 35, 1, 24, .slice none 0 0⟩), (24, ⟨.int .i64, 1, 8, .int .i64 0⟩), (3, ⟨.int .i64, 1, 8, .int .i64 0⟩), (35, ⟨.struct [(0, 3), (1, 3), (2, 3), (3, 3)], 4, 32, .agg #[.int .i64 0, .int .i64 0, .int .i64 0, .int .i64 0]⟩)], live := [0, 2, 3, 4, 6, 7, 10, 11, 12, 13, 14, 41], dt := [(8, [(0, 0), (1, 0), (2, 0), (3, 0), (4, 0), (5, 0), (6, 0), (7, 0), (8, 0), (9, 0), (10, 0), (11, 0), (12, 0), (13, 0), (14, 0), (15, 0), (16, 0), (17, 0), (18, 0), (19, 0), (20, 0), (21, 0)])], nw := true }
theorem cfg20_ok : TTok Try.prog cfg20.tt := (TTok.cons tok23 (TTok.cons tok24 (TTok.cons tok3 (TTok.cons tok35 TTok.nil))))
def cfg21 : Cfg := { tt := [(23, ⟨.slice 35, 1, 24, .slice none 0 0⟩), (3, ⟨.int .i64, 1, 8, .int .i64 0⟩), (24, ⟨.int .i64, 1, 8, .int .i64 0⟩), (35, ⟨.struct [(0, 3), (1, 3), (2, 3), (3, 3)], 4, 32, .agg #[.int .i64 0, .int .i64 0, .int .i64 0, .int .i64 0]⟩)], live := [0, 1, 2, 3, 4, 10, 11, 12, 13, 15, 16, 18, 33, 34, 35, 36, 37, 52, 58, 59, 60, 61, 73], dt := [], nw := true }
theorem cfg21_ok : TTok Try.prog cfg21.tt := (TTok.cons tok23 (TTok.cons tok3 (TTok.cons tok24 (TTok.cons tok35 TTok.nil))))
def cfg22 : Cfg := { tt := [(23, ⟨.slice 35, 1, 24, .slice none 0 0⟩), (24, ⟨.int .i64, 1, 8, .int .i64 0⟩), (3, ⟨.int .i64, 1, 8, .int .i64 0⟩), (35, ⟨.struct [(0, 3), (1, 3), (2, 3), (3, 3)], 4, 32, .agg #[.int .i64 0, .int .i64 0, .int .i64 0, .int .i64 0]⟩)], live := [0, 1, 4, 5, 6, 7, 8, 10, 21, 22, 23, 24, 25, 31], dt := [], nw := true }
theorem cfg22_ok : TTok Try.prog cfg22.tt := (TTok.cons tok23 (TTok.cons tok24 (TTok.cons tok3 (TTok.cons tok35 TTok.nil))))
def cfg23 : Cfg := { tt := [(35, ⟨.struct [(0, 3), (1, 3), (2, 3), (3, 3)], 4, 32, .agg #[.int .i64 0, .int .i64 0, .int .i64 0, .int .i64 0]⟩), (23, ⟨.slice 35, 1, 24, .slice none 0 0⟩), (3, ⟨.int .i64, 1, 8, .int .i64 0⟩), (24, ⟨.int .i64, 1, 8, .int .i64 0⟩)], live := [0, 1, 4, 5, 6, 16, 35], dt := [], nw := true }
theorem cfg23_ok : TTok Try.prog cfg23.tt := (TTok.cons tok35 (TTok.cons tok23 (TTok.cons tok3 (TTok.cons tok24 TTok.nil))))
def cfg24 : Cfg := { tt := [(23, ⟨.slice 35, 1, 24, .slice none 0 0⟩), (24, ⟨.int .i64, 1, 8, .int .i64 0⟩), (3, ⟨.int .i64, 1, 8, .int .i64 0⟩), (35, ⟨.struct [(0, 3), (1, 3), (2, 3), (3, 3)], 4, 32, .agg #[.int .i64 0, .int .i64 0, .int .i64 0, .int .i64 0]⟩)], live := [0, 1, 2, 6], dt := [], nw := true }
theorem cfg24_ok : TTok Try.prog cfg24.tt := (TTok.cons tok23 (TTok.cons tok24 (TTok.cons tok3 (TTok.cons tok35 TTok.nil))))
def cfg25 : Cfg := { tt := [(3, ⟨.int .i64, 1, 8, .int .i64 0⟩)], live := [0, 1, 4, 6], dt := [], nw := true }
theorem cfg25_ok : TTok Try.prog cfg25.tt := (TTok.cons tok3 TTok.nil)
def cfg26 : Cfg := { tt := [(23, ⟨.slice 35, 1, 24, .slice none 0 0⟩), (29, ⟨.slice 3, 1, 24, .slice none 0 0⟩), (3, ⟨.int .i64, 1, 8, .int .i64 0⟩), (35, ⟨.struct [(0, 3), (1, 3), (2, 3), (3, 3)], 4, 32, .agg #[.int .i64 0, .int .i64 0, .int .i64 0, .int .i64 0]⟩)], live := [0, 1, 4, 5, 7, 8, 9, 12, 13, 14, 15, 31], dt := [], nw := true }
theorem cfg26_ok : TTok Try.prog cfg26.tt := (TTok.cons tok23 (TTok.cons tok29 (TTok.cons tok3 (TTok.cons tok35 TTok.nil))))
def cfg27 : Cfg := { tt := [(3, ⟨.int .i64, 1, 8, .int .i64 0⟩), (23, ⟨.slice 35, 1, 24, .slice none 0 0⟩), (62, ⟨.func, 1, 8, .nilFunc⟩), (35, ⟨.struct [(0, 3), (1, 3), (2, 3), (3, 3)], 4, 32, .agg #[.int .i64 0, .int .i64 0, .int .i64 0, .int .i64 0]⟩)], live := [0, 1, 3, 4], dt := [], nw := true }
theorem cfg27_ok : TTok Try.prog cfg27.tt := (TTok.cons tok3 (TTok.cons tok23 (TTok.cons tok62 (TTok.cons tok35 TTok.nil))))
def cfg28 : Cfg := { tt := [(23, ⟨.slice 35, 1, 24, .slice none 0 0⟩), (3, ⟨.int .i64, 1, 8, .int .i64 0⟩), (35, ⟨.struct [(0, 3), (1, 3), (2, 3), (3, 3)], 4, 32, .agg #[.int .i64 0, .int .i64 0, .int .i64 0, .int .i64 0]⟩)], live := [0, 2, 3, 5, 6, 7, 8, 9, 10, 37], dt := [(6, [(0, 0), (1, 0), (2, 0), (3, 0), (4, 0), (5, 0), (6, 0), (7, 0), (8, 0), (9, 0), (10, 0), (11, 0), (12, 0), (13, 0), (14, 0), (15, 0), (16, 0), (17, 0), (18, 0), (19, 0), (20, 0), (21, 0)])], nw := true }
theorem cfg28_ok : TTok Try.prog cfg28.tt := (TTok.cons tok23 (TTok.cons tok3 (TTok.cons tok35 TTok.nil)))
def cfg29 : Cfg := { tt := [(3, ⟨.int .i64, 1, 8, .int .i64 0⟩)], live := [0, 1, 4], dt := [], nw := true }
theorem cfg29_ok : TTok Try.prog cfg29.tt := (TTok.cons tok3 TTok.nil)
def cfg30 : Cfg := { tt := [(23, ⟨.slice 35, 1, 24, .slice none 0 0⟩), (3, ⟨.int .i64, 1, 8, .int .i64 0⟩), (35, ⟨.struct [(0, 3), (1, 3), (2, 3), (3, 3)], 4, 32, .agg #[.int .i64 0, .int .i64 0, .int .i64 0, .int .i64 0]⟩)], live := [0, 2, 3, 5, 6, 7, 8, 9, 29, 38], dt := [], nw := true }
theorem cfg30_ok : TTok Try.prog cfg30.tt := (TTok.cons tok23 (TTok.cons tok3 (TTok.cons tok35 TTok.nil)))
def cfg31 : Cfg := { tt := [(29, ⟨.slice 3, 1, 24, .slice none 0 0⟩), (56, ⟨.func, 1, 8, .nilFunc⟩), (3, ⟨.int .i64, 1, 8, .int .i64 0⟩)], live := [0, 1, 4], dt := [], nw := true }
theorem cfg31_ok : TTok Try.prog cfg31.tt := (TTok.cons tok29 (TTok.cons tok56 (TTok.cons tok3 TTok.nil)))
def cfg32 : Cfg := { tt := [(3, ⟨.int .i64, 1, 8, .int .i64 0⟩), (23, ⟨.slice 35, 1, 24, .slice none 0 0⟩), (35, ⟨.struct [(0, 3), (1, 3), (2, 3), (3, 3)], 4, 32, .agg #[.int .i64 0, .int .i64 0, .int .i64 0, .int .i64 0]⟩)], live := [0, 1, 3], dt := [], nw := true }
theorem cfg32_ok : TTok Try.prog cfg32.tt := (TTok.cons tok3 (TTok.cons tok23 (TTok.cons tok35 TTok.nil)))
def cfg33 : Cfg := { tt := [(23, ⟨.slice 35, 1, 24, .slice none 0 0⟩), (35, ⟨.struct [(0, 3), (1, 3), (2, 3), (3, 3)], 4, 32, .agg #[.int .i64 0, .int .i64 0, .int .i64 0, .int .i64 0]⟩), (3, ⟨.int .i64, 1, 8, .int .i64 0⟩)], live := [0, 2, 4], dt := [], nw := true }
theorem cfg33_ok : TTok Try.prog cfg33.tt := (TTok.cons tok23 (TTok.cons tok35 (TTok.cons tok3 TTok.nil)))
def cfg34 : Cfg := { tt := [(23, ⟨.slice 35, 1, 24, .slice none 0 0⟩), (3, ⟨.int .i64, 1, 8, .int .i64 0⟩), (35, ⟨.struct [(0, 3), (1, 3), (2, 3), (3, 3)], 4, 32, .agg #[.int .i64 0, .int .i64 0, .int .i64 0, .int .i64 0]⟩)], live := [0, 2], dt := [], nw := true }
theorem cfg34_ok : TTok Try.prog cfg34.tt := (TTok.cons tok23 (TTok.cons tok3 (TTok.cons tok35 TTok.nil)))
def cfg35 : Cfg := { tt := [(23, ⟨.slice 35, 1, 24, .slice none 0 0⟩), (3, ⟨.int .i64, 1, 8, .int .i64 0⟩), (35, ⟨.struct [(0, 3), (1, 3), (2, 3), (3, 3)], 4, 32, .agg #[.int .i64 0, .int .i64 0, .int .i64 0, .int .i64 0]⟩)], live := [0, 1, 4, 5, 7, 8, 9, 10, 11, 12, 13, 25], dt := [], nw := true }
theorem cfg35_ok : TTok Try.prog cfg35.tt := (TTok.cons tok23 (TTok.cons tok3 (TTok.cons tok35 TTok.nil)))
def cfg36 : Cfg := { tt := [(23, ⟨.slice 35, 1, 24, .slice none 0 0⟩), (24, ⟨.int .i64, 1, 8, .int .i64 0⟩), (3, ⟨.int .i64, 1, 8, .int .i64 0⟩), (35, ⟨.struct [(0, 3), (1, 3), (2, 3), (3, 3)], 4, 32, .agg #[.int .i64 0, .int .i64 0, .int .i64 0, .int .i64 0]⟩)], live := [0, 1, 2, 6, 7, 8, 10, 28, 29, 30, 31, 32, 49], dt := [], nw := true }
theorem cfg36_ok : TTok Try.prog cfg36.tt := (TTok.cons tok23 (TTok.cons tok24 (TTok.cons tok3 (TTok.cons tok35 TTok.nil))))
def cfg37 : Cfg := { tt := [(23, ⟨.slice 35, 1, 24, .slice none 0 0⟩), (3, ⟨.int .i64, 1, 8, .int .i64 0⟩), (35, ⟨.struct [(0, 3), (1, 3), (2, 3), (3, 3)], 4, 32, .agg #[.int .i64 0, .int .i64 0, .int .i64 0, .int .i64 0]⟩)], live := [0, 1, 2, 6, 7, 8, 9, 16, 22, 31, 68], dt := [(11, [(0, 0), (1, 0), (2, 0), (3, 0), (4, 0), (5, 0), (6, 0), (7, 0), (8, 3)]), (15, [(0, 0), (1, 0), (2, 0), (3, 0), (4, 0), (5, 0), (6, 0), (7, 0), (8, 3)])], nw := true }
theorem cfg37_ok : TTok Try.prog cfg37.tt := (TTok.cons tok23 (TTok.cons tok3 (TTok.cons tok35 TTok.nil)))
def cfg38 : Cfg := { tt := [(23, ⟨.slice 35, 1, 24, .slice none 0 0⟩), (3, ⟨.int .i64, 1, 8, .int .i64 0⟩), (35, ⟨.struct [(0, 3), (1, 3), (2, 3), (3, 3)], 4, 32, .agg #[.int .i64 0, .int .i64 0, .int .i64 0, .int .i64 0]⟩)], live := [0, 1, 4, 5, 7, 8, 9, 16], dt := [], nw := true }
theorem cfg38_ok : TTok Try.prog cfg38.tt := (TTok.cons tok23 (TTok.cons tok3 (TTok.cons tok35 TTok.nil)))
def cfg39 : Cfg := { tt := [(35, ⟨.struct [(0, 3), (1, 3), (2, 3), (3, 3)], 4, 32, .agg #[.int .i64 0, .int .i64 0, .int .i64 0, .int .i64 0]⟩), (3, ⟨.int .i64, 1, 8, .int .i64 0⟩)], live := [0, 1, 2, 3], dt := [], nw := true }
theorem cfg39_ok : TTok Try.prog cfg39.tt := (TTok.cons tok35 (TTok.cons tok3 TTok.nil))
def cfg40 : Cfg := { tt := [(29, ⟨.slice 3, 1, 24, .slice none 0 0⟩), (3, ⟨.int .i64, 1, 8, .int .i64 0⟩)], live := [0, 1, 4, 5, 7, 8, 9, 16], dt := [], nw := true }
theorem cfg40_ok : TTok Try.prog cfg40.tt := (TTok.cons tok29 (TTok.cons tok3 TTok.nil))
theorem mixed : Try.prog.follows .mixedOrders = true := by kernel_rfl
end Go.Proofs
