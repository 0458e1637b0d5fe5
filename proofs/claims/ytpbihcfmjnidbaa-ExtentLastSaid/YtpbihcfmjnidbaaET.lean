/- Tables of the program types and of its functions orders. -/
import Derived.Test.YtpbihcfmjnidbaaSxI
import Derived.Test.YtpbihcfmjnidbaaSxF
import Derived.Test.YtpbihcfmjnidbaaProg
namespace Go.Proofs
set_option linter.unusedVariables false
set_option linter.unusedSimpArgs false
open Go Go.SX Go.RowKit
theorem tok1 : TI.ok Try.prog 1 ⟨.func, 1, 8, .nilFunc⟩ := ⟨by kernel_rfl, by kernel_rfl⟩
theorem tok2 : TI.ok Try.prog 2 ⟨.int .i64, 1, 8, .int .i64 0⟩ := ⟨by kernel_rfl, by kernel_rfl⟩
theorem tok3 : TI.ok Try.prog 3 ⟨.int .i64, 1, 8, .int .i64 0⟩ := ⟨by kernel_rfl, by kernel_rfl⟩
theorem tok4 : TI.ok Try.prog 4 ⟨.bool, 1, 1, .bool false⟩ := ⟨by kernel_rfl, by kernel_rfl⟩
theorem tok5 : TI.ok Try.prog 5 ⟨.int .u8, 1, 1, .int .u8 0⟩ := ⟨by kernel_rfl, by kernel_rfl⟩
theorem tok6 : TI.ok Try.prog 6 ⟨.int .u8, 1, 1, .int .u8 0⟩ := ⟨by kernel_rfl, by kernel_rfl⟩
theorem tok7 : TI.ok Try.prog 7 ⟨.struct [(0, 2), (1, 3), (2, 4), (3, 6)], 4, 24, .agg #[.int .i64 0, .int .i64 0, .bool false, .int .u8 0]⟩ := ⟨by kernel_rfl, by kernel_rfl⟩
theorem tok8 : TI.ok Try.prog 8 ⟨.struct [(0, 2), (1, 3), (2, 4), (3, 6)], 4, 24, .agg #[.int .i64 0, .int .i64 0, .bool false, .int .u8 0]⟩ := ⟨by kernel_rfl, by kernel_rfl⟩
theorem tok9 : TI.ok Try.prog 9 ⟨.str, 1, 16, .string ⟨#[]⟩⟩ := ⟨by kernel_rfl, by kernel_rfl⟩
theorem tok10 : TI.ok Try.prog 10 ⟨.str, 1, 16, .string ⟨#[]⟩⟩ := ⟨by kernel_rfl, by kernel_rfl⟩
theorem tok11 : TI.ok Try.prog 11 ⟨.str, 1, 16, .string ⟨#[]⟩⟩ := ⟨by kernel_rfl, by kernel_rfl⟩
theorem tok12 : TI.ok Try.prog 12 ⟨.int .u64, 1, 8, .int .u64 0⟩ := ⟨by kernel_rfl, by kernel_rfl⟩
theorem tok13 : TI.ok Try.prog 13 ⟨.struct [(0, 9), (1, 12)], 2, 24, .agg #[.string ⟨#[]⟩, .int .u64 0]⟩ := ⟨by kernel_rfl, by kernel_rfl⟩
theorem tok14 : TI.ok Try.prog 14 ⟨.struct [(0, 9), (1, 12)], 2, 24, .agg #[.string ⟨#[]⟩, .int .u64 0]⟩ := ⟨by kernel_rfl, by kernel_rfl⟩
theorem tok15 : TI.ok Try.prog 15 ⟨.ptr 67, 1, 8, .pointer none⟩ := ⟨by kernel_rfl, by kernel_rfl⟩
theorem tok16 : TI.ok Try.prog 16 ⟨.ptr 70, 1, 8, .pointer none⟩ := ⟨by kernel_rfl, by kernel_rfl⟩
theorem tok17 : TI.ok Try.prog 17 ⟨.ptr 80, 1, 8, .pointer none⟩ := ⟨by kernel_rfl, by kernel_rfl⟩
theorem tok18 : TI.ok Try.prog 18 ⟨.struct [(0, 17)], 1, 8, .agg #[.pointer none]⟩ := ⟨by kernel_rfl, by kernel_rfl⟩
theorem tok19 : TI.ok Try.prog 19 ⟨.struct [(0, 17)], 1, 8, .agg #[.pointer none]⟩ := ⟨by kernel_rfl, by kernel_rfl⟩
theorem tok20 : TI.ok Try.prog 20 ⟨.iface, 1, 16, .nilIface⟩ := ⟨by kernel_rfl, by kernel_rfl⟩
theorem tok21 : TI.ok Try.prog 21 ⟨.int .i32, 1, 4, .int .i32 0⟩ := ⟨by kernel_rfl, by kernel_rfl⟩
theorem tok22 : TI.ok Try.prog 22 ⟨.slice 24, 1, 24, .slice none 0 0⟩ := ⟨by kernel_rfl, by kernel_rfl⟩
theorem tok23 : TI.ok Try.prog 23 ⟨.struct [(0, 3), (1, 3), (2, 3), (3, 3), (4, 3)], 5, 40, .agg #[.int .i64 0, .int .i64 0, .int .i64 0, .int .i64 0, .int .i64 0]⟩ := ⟨by kernel_rfl, by kernel_rfl⟩
theorem tok24 : TI.ok Try.prog 24 ⟨.struct [(0, 3), (1, 3), (2, 3), (3, 3), (4, 3)], 5, 40, .agg #[.int .i64 0, .int .i64 0, .int .i64 0, .int .i64 0, .int .i64 0]⟩ := ⟨by kernel_rfl, by kernel_rfl⟩
theorem tok25 : TI.ok Try.prog 25 ⟨.func, 1, 8, .nilFunc⟩ := ⟨by kernel_rfl, by kernel_rfl⟩
theorem tok26 : TI.ok Try.prog 26 ⟨.func, 1, 8, .nilFunc⟩ := ⟨by kernel_rfl, by kernel_rfl⟩
theorem tok27 : TI.ok Try.prog 27 ⟨.int .i64, 1, 8, .int .i64 0⟩ := ⟨by kernel_rfl, by kernel_rfl⟩
theorem tok28 : TI.ok Try.prog 28 ⟨.func, 1, 8, .nilFunc⟩ := ⟨by kernel_rfl, by kernel_rfl⟩
theorem tok29 : TI.ok Try.prog 29 ⟨.func, 1, 8, .nilFunc⟩ := ⟨by kernel_rfl, by kernel_rfl⟩
theorem tok31 : TI.ok Try.prog 31 ⟨.func, 1, 8, .nilFunc⟩ := ⟨by kernel_rfl, by kernel_rfl⟩
theorem tok32 : TI.ok Try.prog 32 ⟨.struct [(0, 4), (1, 3), (2, 3), (3, 3)], 4, 32, .agg #[.bool false, .int .i64 0, .int .i64 0, .int .i64 0]⟩ := ⟨by kernel_rfl, by kernel_rfl⟩
theorem tok33 : TI.ok Try.prog 33 ⟨.struct [(0, 4), (1, 3), (2, 3), (3, 3)], 4, 32, .agg #[.bool false, .int .i64 0, .int .i64 0, .int .i64 0]⟩ := ⟨by kernel_rfl, by kernel_rfl⟩
theorem tok34 : TI.ok Try.prog 34 ⟨.func, 1, 8, .nilFunc⟩ := ⟨by kernel_rfl, by kernel_rfl⟩
theorem tok35 : TI.ok Try.prog 35 ⟨.func, 1, 8, .nilFunc⟩ := ⟨by kernel_rfl, by kernel_rfl⟩
theorem tok36 : TI.ok Try.prog 36 ⟨.slice 3, 1, 24, .slice none 0 0⟩ := ⟨by kernel_rfl, by kernel_rfl⟩
theorem tok37 : TI.ok Try.prog 37 ⟨.map 3 33, 1, 8, .map none⟩ := ⟨by kernel_rfl, by kernel_rfl⟩
theorem tok38 : TI.ok Try.prog 38 ⟨.func, 1, 8, .nilFunc⟩ := ⟨by kernel_rfl, by kernel_rfl⟩
theorem tok39 : TI.ok Try.prog 39 ⟨.func, 1, 8, .nilFunc⟩ := ⟨by kernel_rfl, by kernel_rfl⟩
theorem tok40 : TI.ok Try.prog 40 ⟨.func, 1, 8, .nilFunc⟩ := ⟨by kernel_rfl, by kernel_rfl⟩
theorem tok41 : TI.ok Try.prog 41 ⟨.func, 1, 8, .nilFunc⟩ := ⟨by kernel_rfl, by kernel_rfl⟩
theorem tok43 : TI.ok Try.prog 43 ⟨.func, 1, 8, .nilFunc⟩ := ⟨by kernel_rfl, by kernel_rfl⟩
theorem tok44 : TI.ok Try.prog 44 ⟨.func, 1, 8, .nilFunc⟩ := ⟨by kernel_rfl, by kernel_rfl⟩
theorem tok45 : TI.ok Try.prog 45 ⟨.func, 1, 8, .nilFunc⟩ := ⟨by kernel_rfl, by kernel_rfl⟩
theorem tok46 : TI.ok Try.prog 46 ⟨.func, 1, 8, .nilFunc⟩ := ⟨by kernel_rfl, by kernel_rfl⟩
theorem tok47 : TI.ok Try.prog 47 ⟨.slice 22, 1, 24, .slice none 0 0⟩ := ⟨by kernel_rfl, by kernel_rfl⟩
theorem tok48 : TI.ok Try.prog 48 ⟨.func, 1, 8, .nilFunc⟩ := ⟨by kernel_rfl, by kernel_rfl⟩
theorem tok49 : TI.ok Try.prog 49 ⟨.func, 1, 8, .nilFunc⟩ := ⟨by kernel_rfl, by kernel_rfl⟩
theorem tok50 : TI.ok Try.prog 50 ⟨.func, 1, 8, .nilFunc⟩ := ⟨by kernel_rfl, by kernel_rfl⟩
theorem tok52 : TI.ok Try.prog 52 ⟨.func, 1, 8, .nilFunc⟩ := ⟨by kernel_rfl, by kernel_rfl⟩
theorem tok53 : TI.ok Try.prog 53 ⟨.func, 1, 8, .nilFunc⟩ := ⟨by kernel_rfl, by kernel_rfl⟩
theorem tok54 : TI.ok Try.prog 54 ⟨.func, 1, 8, .nilFunc⟩ := ⟨by kernel_rfl, by kernel_rfl⟩
theorem tok55 : TI.ok Try.prog 55 ⟨.func, 1, 8, .nilFunc⟩ := ⟨by kernel_rfl, by kernel_rfl⟩
theorem tok56 : TI.ok Try.prog 56 ⟨.func, 1, 8, .nilFunc⟩ := ⟨by kernel_rfl, by kernel_rfl⟩
theorem tok57 : TI.ok Try.prog 57 ⟨.func, 1, 8, .nilFunc⟩ := ⟨by kernel_rfl, by kernel_rfl⟩
theorem tok58 : TI.ok Try.prog 58 ⟨.func, 1, 8, .nilFunc⟩ := ⟨by kernel_rfl, by kernel_rfl⟩
theorem tok59 : TI.ok Try.prog 59 ⟨.func, 1, 8, .nilFunc⟩ := ⟨by kernel_rfl, by kernel_rfl⟩
theorem tok60 : TI.ok Try.prog 60 ⟨.func, 1, 8, .nilFunc⟩ := ⟨by kernel_rfl, by kernel_rfl⟩
theorem tok62 : TI.ok Try.prog 62 ⟨.func, 1, 8, .nilFunc⟩ := ⟨by kernel_rfl, by kernel_rfl⟩
theorem tok63 : TI.ok Try.prog 63 ⟨.func, 1, 8, .nilFunc⟩ := ⟨by kernel_rfl, by kernel_rfl⟩
theorem tok64 : TI.ok Try.prog 64 ⟨.int .u64, 1, 8, .int .u64 0⟩ := ⟨by kernel_rfl, by kernel_rfl⟩
theorem tok65 : TI.ok Try.prog 65 ⟨.func, 1, 8, .nilFunc⟩ := ⟨by kernel_rfl, by kernel_rfl⟩
theorem tok66 : TI.ok Try.prog 66 ⟨.struct [(0, 17), (1, 17), (2, 17), (3, 9)], 4, 40, .agg #[.pointer none, .pointer none, .pointer none, .string ⟨#[]⟩]⟩ := ⟨by kernel_rfl, by kernel_rfl⟩
theorem tok67 : TI.ok Try.prog 67 ⟨.struct [(0, 17), (1, 17), (2, 17), (3, 9)], 4, 40, .agg #[.pointer none, .pointer none, .pointer none, .string ⟨#[]⟩]⟩ := ⟨by kernel_rfl, by kernel_rfl⟩
theorem tok68 : TI.ok Try.prog 68 ⟨.arr 0 16, 0, 0, .agg #[]⟩ := ⟨by kernel_rfl, by kernel_rfl⟩
theorem tok69 : TI.ok Try.prog 69 ⟨.struct [(0, 68)], 0, 0, .agg #[]⟩ := ⟨by kernel_rfl, by kernel_rfl⟩
theorem tok70 : TI.ok Try.prog 70 ⟨.struct [(0, 68)], 0, 0, .agg #[]⟩ := ⟨by kernel_rfl, by kernel_rfl⟩
theorem tok71 : TI.ok Try.prog 71 ⟨.func, 1, 8, .nilFunc⟩ := ⟨by kernel_rfl, by kernel_rfl⟩
theorem tok72 : TI.ok Try.prog 72 ⟨.int .u32, 1, 4, .int .u32 0⟩ := ⟨by kernel_rfl, by kernel_rfl⟩
theorem tok73 : TI.ok Try.prog 73 ⟨.int .u8, 1, 1, .int .u8 0⟩ := ⟨by kernel_rfl, by kernel_rfl⟩
theorem tok74 : TI.ok Try.prog 74 ⟨.int .u8, 1, 1, .int .u8 0⟩ := ⟨by kernel_rfl, by kernel_rfl⟩
theorem tok75 : TI.ok Try.prog 75 ⟨.func, 1, 8, .nilFunc⟩ := ⟨by kernel_rfl, by kernel_rfl⟩
theorem tok76 : TI.ok Try.prog 76 ⟨.ptr 5, 1, 8, .pointer none⟩ := ⟨by kernel_rfl, by kernel_rfl⟩
theorem tok77 : TI.ok Try.prog 77 ⟨.int .i32, 1, 4, .int .i32 0⟩ := ⟨by kernel_rfl, by kernel_rfl⟩
theorem tok78 : TI.ok Try.prog 78 ⟨.int .i32, 1, 4, .int .i32 0⟩ := ⟨by kernel_rfl, by kernel_rfl⟩
theorem tok79 : TI.ok Try.prog 79 ⟨.struct [(0, 12), (1, 12), (2, 72), (3, 73), (4, 5), (5, 5), (6, 74), (7, 75), (8, 76), (9, 77), (10, 78)], 11, 48, .agg #[.int .u64 0, .int .u64 0, .int .u32 0, .int .u8 0, .int .u8 0, .int .u8 0, .int .u8 0, .nilFunc, .pointer none, .int .i32 0, .int .i32 0]⟩ := ⟨by kernel_rfl, by kernel_rfl⟩
theorem tok80 : TI.ok Try.prog 80 ⟨.struct [(0, 12), (1, 12), (2, 72), (3, 73), (4, 5), (5, 5), (6, 74), (7, 75), (8, 76), (9, 77), (10, 78)], 11, 48, .agg #[.int .u64 0, .int .u64 0, .int .u32 0, .int .u8 0, .int .u8 0, .int .u8 0, .int .u8 0, .nilFunc, .pointer none, .int .i32 0, .int .i32 0]⟩ := ⟨by kernel_rfl, by kernel_rfl⟩
def cfg3 : Cfg := { tt := [(24, ⟨.struct [(0, 3), (1, 3), (2, 3), (3, 3), (4, 3)], 5, 40, .agg #[.int .i64 0, .int .i64 0, .int .i64 0, .int .i64 0, .int .i64 0]⟩), (47, ⟨.slice 22, 1, 24, .slice none 0 0⟩), (22, ⟨.slice 24, 1, 24, .slice none 0 0⟩), (27, ⟨.int .i64, 1, 8, .int .i64 0⟩), (3, ⟨.int .i64, 1, 8, .int .i64 0⟩), (33, ⟨.struct [(0, 4), (1, 3), (2, 3), (3, 3)], 4, 32, .agg #[.bool false, .int .i64 0, .int .i64 0, .int .i64 0]⟩), (4, ⟨.bool, 1, 1, .bool false⟩)], live := [0, 1, 2, 4, 6, 7, 8, 9, 39], dt := [], nw := true }
theorem cfg3_ok : TTok Try.prog cfg3.tt := (TTok.cons tok24 (TTok.cons tok47 (TTok.cons tok22 (TTok.cons tok27 (TTok.cons tok3 (TTok.cons tok33 (TTok.cons tok4 TTok.nil)))))))
def cfg4 : Cfg := { tt := [(47, ⟨.slice 22, 1, 24, .slice none 0 0⟩), (36, ⟨.slice 3, 1, 24, .slice none 0 0⟩), (3, ⟨.int .i64, 1, 8, .int .i64 0⟩), (37, ⟨.map 3 33, 1, 8, .map none⟩), (22, ⟨.slice 24, 1, 24, .slice none 0 0⟩), (24, ⟨.struct [(0, 3), (1, 3), (2, 3), (3, 3), (4, 3)], 5, 40, .agg #[.int .i64 0, .int .i64 0, .int .i64 0, .int .i64 0, .int .i64 0]⟩), (27, ⟨.int .i64, 1, 8, .int .i64 0⟩), (33, ⟨.struct [(0, 4), (1, 3), (2, 3), (3, 3)], 4, 32, .agg #[.bool false, .int .i64 0, .int .i64 0, .int .i64 0]⟩), (4, ⟨.bool, 1, 1, .bool false⟩)], live := [0, 1, 4, 5, 6, 7, 8, 9, 10, 11, 12, 13, 14, 15, 16, 17, 27, 30, 31, 32, 33, 49, 58, 61, 62, 63, 72, 103, 114, 116, 117, 129, 131, 132, 140], dt := [(38, [(0, 0), (1, 0), (3, 0), (4, 0), (3, 1000000), (2, 1), (5, 1), (6, 1), (5, 1), (2, 1), (6, 1)])], nw := true }
theorem cfg4_ok : TTok Try.prog cfg4.tt := (TTok.cons tok47 (TTok.cons tok36 (TTok.cons tok3 (TTok.cons tok37 (TTok.cons tok22 (TTok.cons tok24 (TTok.cons tok27 (TTok.cons tok33 (TTok.cons tok4 TTok.nil)))))))))
def cfg5 : Cfg := { tt := [(47, ⟨.slice 22, 1, 24, .slice none 0 0⟩), (22, ⟨.slice 24, 1, 24, .slice none 0 0⟩), (27, ⟨.int .i64, 1, 8, .int .i64 0⟩), (3, ⟨.int .i64, 1, 8, .int .i64 0⟩), (24, ⟨.struct [(0, 3), (1, 3), (2, 3), (3, 3), (4, 3)], 5, 40, .agg #[.int .i64 0, .int .i64 0, .int .i64 0, .int .i64 0, .int .i64 0]⟩)], live := [0, 1, 4, 5, 6, 7, 8, 9, 10, 11, 12, 13, 15, 16, 17, 33, 36, 37, 38, 91, 92, 93, 94, 95, 115], dt := [], nw := true }
theorem cfg5_ok : TTok Try.prog cfg5.tt := (TTok.cons tok47 (TTok.cons tok22 (TTok.cons tok27 (TTok.cons tok3 (TTok.cons tok24 TTok.nil)))))
def cfg6 : Cfg := { tt := [(47, ⟨.slice 22, 1, 24, .slice none 0 0⟩), (22, ⟨.slice 24, 1, 24, .slice none 0 0⟩), (27, ⟨.int .i64, 1, 8, .int .i64 0⟩), (3, ⟨.int .i64, 1, 8, .int .i64 0⟩), (24, ⟨.struct [(0, 3), (1, 3), (2, 3), (3, 3), (4, 3)], 5, 40, .agg #[.int .i64 0, .int .i64 0, .int .i64 0, .int .i64 0, .int .i64 0]⟩), (4, ⟨.bool, 1, 1, .bool false⟩), (33, ⟨.struct [(0, 4), (1, 3), (2, 3), (3, 3)], 4, 32, .agg #[.bool false, .int .i64 0, .int .i64 0, .int .i64 0]⟩)], live := [0, 1, 2, 3, 8, 9, 10, 11, 12, 13, 14, 15, 16, 17, 19, 37, 87, 96, 104, 114], dt := [(7, [(0, 0), (1, 0), (2, 0), (3, 0), (4, 0), (5, 0), (6, 0), (7, 0), (8, 0), (9, 0), (10, 0), (11, 0), (12, 0), (13, 0), (14, 0), (15, 0), (16, 0), (17, 0), (18, 0), (19, 0), (20, 0), (21, 0), (22, 0), (23, 0), (24, 0), (25, 0), (26, 0), (27, 0), (28, 0), (29, 0), (30, 0)])], nw := true }
theorem cfg6_ok : TTok Try.prog cfg6.tt := (TTok.cons tok47 (TTok.cons tok22 (TTok.cons tok27 (TTok.cons tok3 (TTok.cons tok24 (TTok.cons tok4 (TTok.cons tok33 TTok.nil)))))))
def cfg7 : Cfg := { tt := [(47, ⟨.slice 22, 1, 24, .slice none 0 0⟩), (22, ⟨.slice 24, 1, 24, .slice none 0 0⟩), (27, ⟨.int .i64, 1, 8, .int .i64 0⟩), (3, ⟨.int .i64, 1, 8, .int .i64 0⟩), (24, ⟨.struct [(0, 3), (1, 3), (2, 3), (3, 3), (4, 3)], 5, 40, .agg #[.int .i64 0, .int .i64 0, .int .i64 0, .int .i64 0, .int .i64 0]⟩)], live := [0, 1, 2, 6, 7, 8, 9, 10, 11, 12, 13, 14, 15, 16, 17, 18, 28, 58, 60, 89], dt := [], nw := true }
theorem cfg7_ok : TTok Try.prog cfg7.tt := (TTok.cons tok47 (TTok.cons tok22 (TTok.cons tok27 (TTok.cons tok3 (TTok.cons tok24 TTok.nil)))))
def cfg8 : Cfg := { tt := [(24, ⟨.struct [(0, 3), (1, 3), (2, 3), (3, 3), (4, 3)], 5, 40, .agg #[.int .i64 0, .int .i64 0, .int .i64 0, .int .i64 0, .int .i64 0]⟩), (22, ⟨.slice 24, 1, 24, .slice none 0 0⟩), (3, ⟨.int .i64, 1, 8, .int .i64 0⟩), (27, ⟨.int .i64, 1, 8, .int .i64 0⟩)], live := [0, 1, 2, 3, 4], dt := [], nw := true }
theorem cfg8_ok : TTok Try.prog cfg8.tt := (TTok.cons tok24 (TTok.cons tok22 (TTok.cons tok3 (TTok.cons tok27 TTok.nil))))
def cfg9 : Cfg := { tt := [(47, ⟨.slice 22, 1, 24, .slice none 0 0⟩), (3, ⟨.int .i64, 1, 8, .int .i64 0⟩), (22, ⟨.slice 24, 1, 24, .slice none 0 0⟩), (24, ⟨.struct [(0, 3), (1, 3), (2, 3), (3, 3), (4, 3)], 5, 40, .agg #[.int .i64 0, .int .i64 0, .int .i64 0, .int .i64 0, .int .i64 0]⟩)], live := [0, 2, 4, 5, 6, 7, 8, 13], dt := [], nw := true }
theorem cfg9_ok : TTok Try.prog cfg9.tt := (TTok.cons tok47 (TTok.cons tok3 (TTok.cons tok22 (TTok.cons tok24 TTok.nil))))
def cfg10 : Cfg := { tt := [(22, ⟨.slice 24, 1, 24, .slice none 0 0⟩), (3, ⟨.int .i64, 1, 8, .int .i64 0⟩), (24, ⟨.struct [(0, 3), (1, 3), (2, 3), (3, 3), (4, 3)], 5, 40, .agg #[.int .i64 0, .int .i64 0, .int .i64 0, .int .i64 0, .int .i64 0]⟩)], live := [0, 2, 3, 5, 6, 7, 8, 9, 20], dt := [], nw := true }
theorem cfg10_ok : TTok Try.prog cfg10.tt := (TTok.cons tok22 (TTok.cons tok3 (TTok.cons tok24 TTok.nil)))
def cfg11 : Cfg := { tt := [(24, ⟨.struct [(0, 3), (1, 3), (2, 3), (3, 3), (4, 3)], 5, 40, .agg #[.int .i64 0, .int .i64 0, .int .i64 0, .int .i64 0, .int .i64 0]⟩), (3, ⟨.int .i64, 1, 8, .int .i64 0⟩)], live := [0, 1, 2, 28, 31], dt := [], nw := true }
theorem cfg11_ok : TTok Try.prog cfg11.tt := (TTok.cons tok24 (TTok.cons tok3 TTok.nil))
def cfg12 : Cfg := { tt := [(22, ⟨.slice 24, 1, 24, .slice none 0 0⟩), (27, ⟨.int .i64, 1, 8, .int .i64 0⟩), (29, ⟨.func, 1, 8, .nilFunc⟩), (3, ⟨.int .i64, 1, 8, .int .i64 0⟩), (24, ⟨.struct [(0, 3), (1, 3), (2, 3), (3, 3), (4, 3)], 5, 40, .agg #[.int .i64 0, .int .i64 0, .int .i64 0, .int .i64 0, .int .i64 0]⟩)], live := [0, 1, 4, 5, 7, 8, 15, 16, 17, 18, 19, 35], dt := [], nw := true }
theorem cfg12_ok : TTok Try.prog cfg12.tt := (TTok.cons tok22 (TTok.cons tok27 (TTok.cons tok29 (TTok.cons tok3 (TTok.cons tok24 TTok.nil)))))
def cfg13 : Cfg := { tt := [(33, ⟨.struct [(0, 4), (1, 3), (2, 3), (3, 3)], 4, 32, .agg #[.bool false, .int .i64 0, .int .i64 0, .int .i64 0]⟩), (22, ⟨.slice 24, 1, 24, .slice none 0 0⟩), (3, ⟨.int .i64, 1, 8, .int .i64 0⟩), (24, ⟨.struct [(0, 3), (1, 3), (2, 3), (3, 3), (4, 3)], 5, 40, .agg #[.int .i64 0, .int .i64 0, .int .i64 0, .int .i64 0, .int .i64 0]⟩), (4, ⟨.bool, 1, 1, .bool false⟩)], live := [0, 1, 4, 5, 6, 14, 33], dt := [], nw := true }
theorem cfg13_ok : TTok Try.prog cfg13.tt := (TTok.cons tok33 (TTok.cons tok22 (TTok.cons tok3 (TTok.cons tok24 (TTok.cons tok4 TTok.nil)))))
def cfg14 : Cfg := { tt := [(22, ⟨.slice 24, 1, 24, .slice none 0 0⟩), (27, ⟨.int .i64, 1, 8, .int .i64 0⟩), (3, ⟨.int .i64, 1, 8, .int .i64 0⟩), (24, ⟨.struct [(0, 3), (1, 3), (2, 3), (3, 3), (4, 3)], 5, 40, .agg #[.int .i64 0, .int .i64 0, .int .i64 0, .int .i64 0, .int .i64 0]⟩)], live := [0, 1, 2, 6, 7, 16], dt := [], nw := true }
theorem cfg14_ok : TTok Try.prog cfg14.tt := (TTok.cons tok22 (TTok.cons tok27 (TTok.cons tok3 (TTok.cons tok24 TTok.nil))))
def cfg15 : Cfg := { tt := [(22, ⟨.slice 24, 1, 24, .slice none 0 0⟩), (27, ⟨.int .i64, 1, 8, .int .i64 0⟩), (3, ⟨.int .i64, 1, 8, .int .i64 0⟩), (24, ⟨.struct [(0, 3), (1, 3), (2, 3), (3, 3), (4, 3)], 5, 40, .agg #[.int .i64 0, .int .i64 0, .int .i64 0, .int .i64 0, .int .i64 0]⟩)], live := [0, 2, 4, 7, 8, 9, 10, 11], dt := [], nw := true }
theorem cfg15_ok : TTok Try.prog cfg15.tt := (TTok.cons tok22 (TTok.cons tok27 (TTok.cons tok3 (TTok.cons tok24 TTok.nil))))
def cfg16 : Cfg := { tt := [(22, ⟨.slice 24, 1, 24, .slice none 0 0⟩), (3, ⟨.int .i64, 1, 8, .int .i64 0⟩), (24, ⟨.struct [(0, 3), (1, 3), (2, 3), (3, 3), (4, 3)], 5, 40, .agg #[.int .i64 0, .int .i64 0, .int .i64 0, .int .i64 0, .int .i64 0]⟩)], live := [0, 1, 4, 5, 10, 12, 13, 14, 24], dt := [(6, [(0, 0), (1, 0), (2, 0), (3, 0), (4, 0), (5, 0), (6, 0), (7, 0), (8, 0)])], nw := true }
theorem cfg16_ok : TTok Try.prog cfg16.tt := (TTok.cons tok22 (TTok.cons tok3 (TTok.cons tok24 TTok.nil)))
def cfg17 : Cfg := { tt := [(22, ⟨.slice 24, 1, 24, .slice none 0 0⟩), (27, ⟨.int .i64, 1, 8, .int .i64 0⟩), (3, ⟨.int .i64, 1, 8, .int .i64 0⟩), (24, ⟨.struct [(0, 3), (1, 3), (2, 3), (3, 3), (4, 3)], 5, 40, .agg #[.int .i64 0, .int .i64 0, .int .i64 0, .int .i64 0, .int .i64 0]⟩)], live := [0, 1, 2, 6, 7, 8, 19], dt := [], nw := true }
theorem cfg17_ok : TTok Try.prog cfg17.tt := (TTok.cons tok22 (TTok.cons tok27 (TTok.cons tok3 (TTok.cons tok24 TTok.nil))))
def cfg18 : Cfg := { tt := [(22, ⟨.slice 24, 1, 24, .slice none 0 0⟩), (27, ⟨.int .i64, 1, 8, .int .i64 0⟩), (24, ⟨.struct [(0, 3), (1, 3), (2, 3), (3, 3), (4, 3)], 5, 40, .agg #[.int .i64 0, .int .i64 0, .int .i64 0, .int .i64 0, .int .i64 0]⟩), (3, ⟨.int .i64, 1, 8, .int .i64 0⟩)], live := [0, 1, 4], dt := [], nw := true }
theorem cfg18_ok : TTok Try.prog cfg18.tt := (TTok.cons tok22 (TTok.cons tok27 (TTok.cons tok24 (TTok.cons tok3 TTok.nil))))
def cfg19 : Cfg := { tt := [(24, ⟨.struct [(0, 3), (1, 3), (2, 3), (3, 3), (4, 3)], 5, 40, .agg #[.int .i64 0, .int .i64 0, .int .i64 0, .int .i64 0, .int .i64 0]⟩), (22, ⟨.slice 24, 1, 24, .slice none 0 0⟩), (27, ⟨.int .i64, 1, 8, .int .i64 0⟩), (3, ⟨.int .i64, 1, 8, .int .i64 0⟩)], live := [0, 1, 4, 5, 6, 16, 24, 27], dt := [], nw := true }
theorem cfg19_ok : TTok Try.prog cfg19.tt := (TTok.cons tok24 (TTok.cons tok22 (TTok.cons tok27 (TTok.cons tok3 TTok.nil))))
def cfg20 : Cfg := { tt := [(3, ⟨.int .i64, 1, 8, .int .i64 0⟩), (22, ⟨.slice 24, 1, 24, .slice none 0 0⟩), (27, ⟨.int .i64, 1, 8, .int .i64 0⟩), (24, ⟨.struct [(0, 3), (1, 3), (2, 3), (3, 3), (4, 3)], 5, 40, .agg #[.int .i64 0, .int .i64 0, .int .i64 0, .int .i64 0, .int .i64 0]⟩)], live := [0, 1, 2, 4, 6, 7, 8, 9, 10, 11, 12, 14, 23, 29, 30, 31, 32], dt := [], nw := true }
theorem cfg20_ok : TTok Try.prog cfg20.tt := (TTok.cons tok3 (TTok.cons tok22 (TTok.cons tok27 (TTok.cons tok24 TTok.nil))))
def cfg21 : Cfg := { tt := [(22, ⟨.slice 24, 1, 24, .slice none 0 0⟩), (27, ⟨.int .i64, 1, 8, .int .i64 0⟩), (3, ⟨.int .i64, 1, 8, .int .i64 0⟩), (24, ⟨.struct [(0, 3), (1, 3), (2, 3), (3, 3), (4, 3)], 5, 40, .agg #[.int .i64 0, .int .i64 0, .int .i64 0, .int .i64 0, .int .i64 0]⟩)], live := [0, 2, 3, 5, 6, 9, 10, 11, 12, 13, 28], dt := [(8, [(0, 0), (1, 0), (2, 0), (3, 0), (4, 0), (5, 0), (6, 0), (7, 0), (8, 1), (9, 0)]), (9, [(0, 0), (1, 0), (2, 0), (3, 0), (4, 0), (5, 0), (6, 0), (7, 0), (8, 0), (9, 0), (10, 3)])], nw := true }
theorem cfg21_ok : TTok Try.prog cfg21.tt := (TTok.cons tok22 (TTok.cons tok27 (TTok.cons tok3 (TTok.cons tok24 TTok.nil))))
def cfg22 : Cfg := { tt := [(22, ⟨.slice 24, 1, 24, .slice none 0 0⟩), (3, ⟨.int .i64, 1, 8, .int .i64 0⟩), (24, ⟨.struct [(0, 3), (1, 3), (2, 3), (3, 3), (4, 3)], 5, 40, .agg #[.int .i64 0, .int .i64 0, .int .i64 0, .int .i64 0, .int .i64 0]⟩)], live := [0, 2, 3, 4, 5, 6, 7, 8, 29], dt := [(4, [(0, 0), (1, 1), (2, 0), (3, 0), (4, 0), (5, 0), (6, 0), (7, 0), (8, 0), (9, 0), (10, 0), (11, 0), (12, 0), (13, 1), (14, 1), (15, 0), (16, 0), (17, 0)])], nw := true }
theorem cfg22_ok : TTok Try.prog cfg22.tt := (TTok.cons tok22 (TTok.cons tok3 (TTok.cons tok24 TTok.nil)))
def cfg23 : Cfg := { tt := [(22, ⟨.slice 24, 1, 24, .slice none 0 0⟩), (29, ⟨.func, 1, 8, .nilFunc⟩), (3, ⟨.int .i64, 1, 8, .int .i64 0⟩), (24, ⟨.struct [(0, 3), (1, 3), (2, 3), (3, 3), (4, 3)], 5, 40, .agg #[.int .i64 0, .int .i64 0, .int .i64 0, .int .i64 0, .int .i64 0]⟩)], live := [0, 1, 4], dt := [], nw := true }
theorem cfg23_ok : TTok Try.prog cfg23.tt := (TTok.cons tok22 (TTok.cons tok29 (TTok.cons tok3 (TTok.cons tok24 TTok.nil))))
def cfg24 : Cfg := { tt := [(24, ⟨.struct [(0, 3), (1, 3), (2, 3), (3, 3), (4, 3)], 5, 40, .agg #[.int .i64 0, .int .i64 0, .int .i64 0, .int .i64 0, .int .i64 0]⟩), (3, ⟨.int .i64, 1, 8, .int .i64 0⟩)], live := [0, 1, 2], dt := [], nw := true }
theorem cfg24_ok : TTok Try.prog cfg24.tt := (TTok.cons tok24 (TTok.cons tok3 TTok.nil))
def cfg25 : Cfg := { tt := [(24, ⟨.struct [(0, 3), (1, 3), (2, 3), (3, 3), (4, 3)], 5, 40, .agg #[.int .i64 0, .int .i64 0, .int .i64 0, .int .i64 0, .int .i64 0]⟩), (3, ⟨.int .i64, 1, 8, .int .i64 0⟩)], live := [0, 1, 2, 3, 30], dt := [], nw := true }
theorem cfg25_ok : TTok Try.prog cfg25.tt := (TTok.cons tok24 (TTok.cons tok3 TTok.nil))
def cfg26 : Cfg := { tt := [(22, ⟨.slice 24, 1, 24, .slice none 0 0⟩), (3, ⟨.int .i64, 1, 8, .int .i64 0⟩), (24, ⟨.struct [(0, 3), (1, 3), (2, 3), (3, 3), (4, 3)], 5, 40, .agg #[.int .i64 0, .int .i64 0, .int .i64 0, .int .i64 0, .int .i64 0]⟩), (47, ⟨.slice 22, 1, 24, .slice none 0 0⟩)], live := [0, 1, 2, 3, 8, 10, 11, 12, 32, 59], dt := [(8, [(0, 0), (1, 0), (2, 0), (3, 0), (4, 0), (5, 0), (6, 0), (7, 1), (8, 1), (9, 0)])], nw := true }
theorem cfg26_ok : TTok Try.prog cfg26.tt := (TTok.cons tok22 (TTok.cons tok3 (TTok.cons tok24 (TTok.cons tok47 TTok.nil))))
def cfg27 : Cfg := { tt := [(3, ⟨.int .i64, 1, 8, .int .i64 0⟩)], live := [0, 1, 4], dt := [], nw := true }
theorem cfg27_ok : TTok Try.prog cfg27.tt := (TTok.cons tok3 TTok.nil)
def cfg28 : Cfg := { tt := [(22, ⟨.slice 24, 1, 24, .slice none 0 0⟩), (3, ⟨.int .i64, 1, 8, .int .i64 0⟩), (24, ⟨.struct [(0, 3), (1, 3), (2, 3), (3, 3), (4, 3)], 5, 40, .agg #[.int .i64 0, .int .i64 0, .int .i64 0, .int .i64 0, .int .i64 0]⟩)], live := [0, 1, 2, 6, 7, 8, 27], dt := [], nw := true }
theorem cfg28_ok : TTok Try.prog cfg28.tt := (TTok.cons tok22 (TTok.cons tok3 (TTok.cons tok24 TTok.nil)))
def cfg29 : Cfg := { tt := [(22, ⟨.slice 24, 1, 24, .slice none 0 0⟩), (3, ⟨.int .i64, 1, 8, .int .i64 0⟩), (24, ⟨.struct [(0, 3), (1, 3), (2, 3), (3, 3), (4, 3)], 5, 40, .agg #[.int .i64 0, .int .i64 0, .int .i64 0, .int .i64 0, .int .i64 0]⟩)], live := [0, 1, 4, 5, 10, 12, 13, 14, 24], dt := [(6, [(0, 0), (1, 0), (2, 0), (3, 0), (4, 0), (5, 0), (6, 0), (7, 0), (8, 0)])], nw := true }
theorem cfg29_ok : TTok Try.prog cfg29.tt := (TTok.cons tok22 (TTok.cons tok3 (TTok.cons tok24 TTok.nil)))
def cfg30 : Cfg := { tt := [(3, ⟨.int .i64, 1, 8, .int .i64 0⟩), (22, ⟨.slice 24, 1, 24, .slice none 0 0⟩), (24, ⟨.struct [(0, 3), (1, 3), (2, 3), (3, 3), (4, 3)], 5, 40, .agg #[.int .i64 0, .int .i64 0, .int .i64 0, .int .i64 0, .int .i64 0]⟩)], live := [0, 1, 2, 6], dt := [], nw := true }
theorem cfg30_ok : TTok Try.prog cfg30.tt := (TTok.cons tok3 (TTok.cons tok22 (TTok.cons tok24 TTok.nil)))
def cfg31 : Cfg := { tt := [(24, ⟨.struct [(0, 3), (1, 3), (2, 3), (3, 3), (4, 3)], 5, 40, .agg #[.int .i64 0, .int .i64 0, .int .i64 0, .int .i64 0, .int .i64 0]⟩), (3, ⟨.int .i64, 1, 8, .int .i64 0⟩)], live := [0, 1, 2], dt := [], nw := true }
theorem cfg31_ok : TTok Try.prog cfg31.tt := (TTok.cons tok24 (TTok.cons tok3 TTok.nil))
def cfg32 : Cfg := { tt := [(24, ⟨.struct [(0, 3), (1, 3), (2, 3), (3, 3), (4, 3)], 5, 40, .agg #[.int .i64 0, .int .i64 0, .int .i64 0, .int .i64 0, .int .i64 0]⟩), (3, ⟨.int .i64, 1, 8, .int .i64 0⟩)], live := [0, 1, 2, 3, 4, 5], dt := [(2, [(0, 0), (1, 0), (2, 0), (3, 1), (4, 1), (5, 0), (6, 0), (7, 1), (8, 1), (9, 0), (10, 0)])], nw := true }
theorem cfg32_ok : TTok Try.prog cfg32.tt := (TTok.cons tok24 (TTok.cons tok3 TTok.nil))
def cfg33 : Cfg := { tt := [(22, ⟨.slice 24, 1, 24, .slice none 0 0⟩), (3, ⟨.int .i64, 1, 8, .int .i64 0⟩), (24, ⟨.struct [(0, 3), (1, 3), (2, 3), (3, 3), (4, 3)], 5, 40, .agg #[.int .i64 0, .int .i64 0, .int .i64 0, .int .i64 0, .int .i64 0]⟩)], live := [0, 1, 4, 5, 7, 8, 9, 16], dt := [], nw := true }
theorem cfg33_ok : TTok Try.prog cfg33.tt := (TTok.cons tok22 (TTok.cons tok3 (TTok.cons tok24 TTok.nil)))
def cfg34 : Cfg := { tt := [(24, ⟨.struct [(0, 3), (1, 3), (2, 3), (3, 3), (4, 3)], 5, 40, .agg #[.int .i64 0, .int .i64 0, .int .i64 0, .int .i64 0, .int .i64 0]⟩), (3, ⟨.int .i64, 1, 8, .int .i64 0⟩)], live := [0, 1, 2, 4, 24], dt := [], nw := true }
theorem cfg34_ok : TTok Try.prog cfg34.tt := (TTok.cons tok24 (TTok.cons tok3 TTok.nil))
def cfg35 : Cfg := { tt := [(24, ⟨.struct [(0, 3), (1, 3), (2, 3), (3, 3), (4, 3)], 5, 40, .agg #[.int .i64 0, .int .i64 0, .int .i64 0, .int .i64 0, .int .i64 0]⟩), (3, ⟨.int .i64, 1, 8, .int .i64 0⟩)], live := [0, 1, 2, 4, 5, 11, 21, 24], dt := [], nw := true }
theorem cfg35_ok : TTok Try.prog cfg35.tt := (TTok.cons tok24 (TTok.cons tok3 TTok.nil))
def cfg36 : Cfg := { tt := [(47, ⟨.slice 22, 1, 24, .slice none 0 0⟩), (3, ⟨.int .i64, 1, 8, .int .i64 0⟩), (22, ⟨.slice 24, 1, 24, .slice none 0 0⟩), (9, ⟨.str, 1, 16, .string ⟨#[]⟩⟩), (24, ⟨.struct [(0, 3), (1, 3), (2, 3), (3, 3), (4, 3)], 5, 40, .agg #[.int .i64 0, .int .i64 0, .int .i64 0, .int .i64 0, .int .i64 0]⟩)], live := [0, 2, 3, 5, 6, 8, 9, 10, 11, 12, 20, 25, 26, 27, 28], dt := [], nw := true }
theorem cfg36_ok : TTok Try.prog cfg36.tt := (TTok.cons tok47 (TTok.cons tok3 (TTok.cons tok22 (TTok.cons tok9 (TTok.cons tok24 TTok.nil)))))
def cfg37 : Cfg := { tt := [(22, ⟨.slice 24, 1, 24, .slice none 0 0⟩), (3, ⟨.int .i64, 1, 8, .int .i64 0⟩), (63, ⟨.func, 1, 8, .nilFunc⟩), (24, ⟨.struct [(0, 3), (1, 3), (2, 3), (3, 3), (4, 3)], 5, 40, .agg #[.int .i64 0, .int .i64 0, .int .i64 0, .int .i64 0, .int .i64 0]⟩)], live := [0, 1, 4, 5], dt := [], nw := true }
theorem cfg37_ok : TTok Try.prog cfg37.tt := (TTok.cons tok22 (TTok.cons tok3 (TTok.cons tok63 (TTok.cons tok24 TTok.nil))))
def cfg38 : Cfg := { tt := [(3, ⟨.int .i64, 1, 8, .int .i64 0⟩), (9, ⟨.str, 1, 16, .string ⟨#[]⟩⟩), (22, ⟨.slice 24, 1, 24, .slice none 0 0⟩), (24, ⟨.struct [(0, 3), (1, 3), (2, 3), (3, 3), (4, 3)], 5, 40, .agg #[.int .i64 0, .int .i64 0, .int .i64 0, .int .i64 0, .int .i64 0]⟩)], live := [0, 1, 4, 6, 16], dt := [], nw := true }
theorem cfg38_ok : TTok Try.prog cfg38.tt := (TTok.cons tok3 (TTok.cons tok9 (TTok.cons tok22 (TTok.cons tok24 TTok.nil))))
def cfg39 : Cfg := { tt := [(22, ⟨.slice 24, 1, 24, .slice none 0 0⟩), (3, ⟨.int .i64, 1, 8, .int .i64 0⟩), (64, ⟨.int .u64, 1, 8, .int .u64 0⟩), (24, ⟨.struct [(0, 3), (1, 3), (2, 3), (3, 3), (4, 3)], 5, 40, .agg #[.int .i64 0, .int .i64 0, .int .i64 0, .int .i64 0, .int .i64 0]⟩)], live := [0, 1, 2, 6, 7, 8, 9, 10, 11, 17, 31], dt := [], nw := true }
theorem cfg39_ok : TTok Try.prog cfg39.tt := (TTok.cons tok22 (TTok.cons tok3 (TTok.cons tok64 (TTok.cons tok24 TTok.nil))))
def cfg40 : Cfg := { tt := [(24, ⟨.struct [(0, 3), (1, 3), (2, 3), (3, 3), (4, 3)], 5, 40, .agg #[.int .i64 0, .int .i64 0, .int .i64 0, .int .i64 0, .int .i64 0]⟩), (3, ⟨.int .i64, 1, 8, .int .i64 0⟩)], live := [0, 1, 2, 4, 8], dt := [], nw := true }
theorem cfg40_ok : TTok Try.prog cfg40.tt := (TTok.cons tok24 (TTok.cons tok3 TTok.nil))
theorem mixed : Try.prog.follows .mixedOrders = true := by kernel_rfl
end Go.Proofs
