/- Tables of further functions orders (LiveCounts). -/
import Derived.Test.YtnmjdelnllchdaaDT
namespace Go.Proofs
set_option linter.unusedVariables false
set_option linter.unusedSimpArgs false
set_option linter.unusedSectionVars false
open Go Go.SX Go.RowKit
def cfg7 : Cfg := { tt := [(25, ⟨.slice 51, 1, 24, .slice none 0 0⟩), (3, ⟨.int .i64, 1, 8, .int .i64 0⟩), (35, ⟨.int .i64, 1, 8, .int .i64 0⟩), (26, ⟨.slice 3, 1, 24, .slice none 0 0⟩), (51, ⟨.struct [(0, 3), (1, 3), (2, 3), (3, 3), (4, 3)], 5, 40, .agg #[.int .i64 0, .int .i64 0, .int .i64 0, .int .i64 0, .int .i64 0]⟩)], live := [0, 1, 4, 5, 6, 7, 8, 9, 10, 11, 12, 13, 14, 15, 16, 17, 18, 20, 37, 52, 53, 54, 55, 56, 66, 67, 68, 69, 117, 146, 154, 159, 160, 161, 162, 173], dt := [(17, [(0, 0), (1, 0), (2, 0), (3, 0), (4, 0), (5, 0), (6, 0), (7, 0), (8, 0), (9, 0), (10, 0), (11, 0), (12, 0), (13, 0), (14, 0), (15, 0), (16, 0), (17, 0), (18, 0), (19, 0), (20, 0), (21, 0), (22, 0), (23, 0), (24, 0), (25, 0), (26, 0), (27, 0), (28, 0), (29, 0), (30, 0), (31, 0), (32, 0), (33, 0), (34, 0), (35, 0), (36, 0), (37, 0), (38, 0), (39, 0), (40, 0)])], nw := true }
theorem cfg7_ok : TTok Try.prog cfg7.tt := (TTok.cons tok25 (TTok.cons tok3 (TTok.cons tok35 (TTok.cons tok26 (TTok.cons tok51 TTok.nil)))))
def cfg19 : Cfg := { tt := [(3, ⟨.int .i64, 1, 8, .int .i64 0⟩), (25, ⟨.slice 51, 1, 24, .slice none 0 0⟩), (35, ⟨.int .i64, 1, 8, .int .i64 0⟩), (59, ⟨.func, 1, 8, .nilFunc⟩), (67, ⟨.func, 1, 8, .nilFunc⟩), (51, ⟨.struct [(0, 3), (1, 3), (2, 3), (3, 3), (4, 3)], 5, 40, .agg #[.int .i64 0, .int .i64 0, .int .i64 0, .int .i64 0, .int .i64 0]⟩)], live := [0, 1, 3, 4, 5, 6, 13], dt := [], nw := true }
theorem cfg19_ok : TTok Try.prog cfg19.tt := (TTok.cons tok3 (TTok.cons tok25 (TTok.cons tok35 (TTok.cons tok59 (TTok.cons tok67 (TTok.cons tok51 TTok.nil))))))
def cfg20 : Cfg := { tt := [(51, ⟨.struct [(0, 3), (1, 3), (2, 3), (3, 3), (4, 3)], 5, 40, .agg #[.int .i64 0, .int .i64 0, .int .i64 0, .int .i64 0, .int .i64 0]⟩), (25, ⟨.slice 51, 1, 24, .slice none 0 0⟩), (35, ⟨.int .i64, 1, 8, .int .i64 0⟩), (3, ⟨.int .i64, 1, 8, .int .i64 0⟩)], live := [0, 1, 4, 5, 6, 16, 27, 51], dt := [], nw := true }
theorem cfg20_ok : TTok Try.prog cfg20.tt := (TTok.cons tok51 (TTok.cons tok25 (TTok.cons tok35 (TTok.cons tok3 TTok.nil))))
def cfg32 : Cfg := { tt := [(25, ⟨.slice 51, 1, 24, .slice none 0 0⟩), (59, ⟨.func, 1, 8, .nilFunc⟩), (3, ⟨.int .i64, 1, 8, .int .i64 0⟩), (51, ⟨.struct [(0, 3), (1, 3), (2, 3), (3, 3), (4, 3)], 5, 40, .agg #[.int .i64 0, .int .i64 0, .int .i64 0, .int .i64 0, .int .i64 0]⟩)], live := [0, 1, 4, 5, 6, 7, 12, 19, 29], dt := [], nw := true }
theorem cfg32_ok : TTok Try.prog cfg32.tt := (TTok.cons tok25 (TTok.cons tok59 (TTok.cons tok3 (TTok.cons tok51 TTok.nil))))
def cfg33 : Cfg := { tt := [(25, ⟨.slice 51, 1, 24, .slice none 0 0⟩), (51, ⟨.struct [(0, 3), (1, 3), (2, 3), (3, 3), (4, 3)], 5, 40, .agg #[.int .i64 0, .int .i64 0, .int .i64 0, .int .i64 0, .int .i64 0]⟩), (3, ⟨.int .i64, 1, 8, .int .i64 0⟩)], live := [0, 2, 4], dt := [], nw := true }
theorem cfg33_ok : TTok Try.prog cfg33.tt := (TTok.cons tok25 (TTok.cons tok51 (TTok.cons tok3 TTok.nil)))
def cfg34 : Cfg := { tt := [(51, ⟨.struct [(0, 3), (1, 3), (2, 3), (3, 3), (4, 3)], 5, 40, .agg #[.int .i64 0, .int .i64 0, .int .i64 0, .int .i64 0, .int .i64 0]⟩), (3, ⟨.int .i64, 1, 8, .int .i64 0⟩)], live := [0, 1, 2, 3], dt := [], nw := true }
theorem cfg34_ok : TTok Try.prog cfg34.tt := (TTok.cons tok51 (TTok.cons tok3 TTok.nil))
def cfg36 : Cfg := { tt := [(51, ⟨.struct [(0, 3), (1, 3), (2, 3), (3, 3), (4, 3)], 5, 40, .agg #[.int .i64 0, .int .i64 0, .int .i64 0, .int .i64 0, .int .i64 0]⟩), (3, ⟨.int .i64, 1, 8, .int .i64 0⟩), (26, ⟨.slice 3, 1, 24, .slice none 0 0⟩)], live := [0, 1, 2, 3, 4], dt := [(1, [(0, 0), (1, 0), (2, 0), (3, 0), (5, 0), (6, 0), (7, 0), (8, 0), (4, 1), (9, 1), (10, 1), (11, 1), (12, 0)])], nw := true }
theorem cfg36_ok : TTok Try.prog cfg36.tt := (TTok.cons tok51 (TTok.cons tok3 (TTok.cons tok26 TTok.nil)))
def cfg37 : Cfg := { tt := [(26, ⟨.slice 3, 1, 24, .slice none 0 0⟩), (3, ⟨.int .i64, 1, 8, .int .i64 0⟩)], live := [0, 2, 3, 5, 6, 7, 8, 9, 14], dt := [], nw := true }
theorem cfg37_ok : TTok Try.prog cfg37.tt := (TTok.cons tok26 (TTok.cons tok3 TTok.nil))
def cfg40 : Cfg := { tt := [(25, ⟨.slice 51, 1, 24, .slice none 0 0⟩), (3, ⟨.int .i64, 1, 8, .int .i64 0⟩), (51, ⟨.struct [(0, 3), (1, 3), (2, 3), (3, 3), (4, 3)], 5, 40, .agg #[.int .i64 0, .int .i64 0, .int .i64 0, .int .i64 0, .int .i64 0]⟩)], live := [0, 1, 2, 6, 7, 8, 27], dt := [], nw := true }
theorem cfg40_ok : TTok Try.prog cfg40.tt := (TTok.cons tok25 (TTok.cons tok3 (TTok.cons tok51 TTok.nil)))
def cfg53 : Cfg := { tt := [(25, ⟨.slice 51, 1, 24, .slice none 0 0⟩), (3, ⟨.int .i64, 1, 8, .int .i64 0⟩), (51, ⟨.struct [(0, 3), (1, 3), (2, 3), (3, 3), (4, 3)], 5, 40, .agg #[.int .i64 0, .int .i64 0, .int .i64 0, .int .i64 0, .int .i64 0]⟩)], live := [0, 1, 4, 5, 7, 8, 9, 16], dt := [], nw := true }
theorem cfg53_ok : TTok Try.prog cfg53.tt := (TTok.cons tok25 (TTok.cons tok3 (TTok.cons tok51 TTok.nil)))
def cfg57 : Cfg := { tt := [(25, ⟨.slice 51, 1, 24, .slice none 0 0⟩), (3, ⟨.int .i64, 1, 8, .int .i64 0⟩), (100, ⟨.func, 1, 8, .nilFunc⟩), (51, ⟨.struct [(0, 3), (1, 3), (2, 3), (3, 3), (4, 3)], 5, 40, .agg #[.int .i64 0, .int .i64 0, .int .i64 0, .int .i64 0, .int .i64 0]⟩)], live := [0, 1, 4, 5], dt := [], nw := true }
theorem cfg57_ok : TTok Try.prog cfg57.tt := (TTok.cons tok25 (TTok.cons tok3 (TTok.cons tok100 (TTok.cons tok51 TTok.nil))))
def cfg58 : Cfg := { tt := [(51, ⟨.struct [(0, 3), (1, 3), (2, 3), (3, 3), (4, 3)], 5, 40, .agg #[.int .i64 0, .int .i64 0, .int .i64 0, .int .i64 0, .int .i64 0]⟩), (3, ⟨.int .i64, 1, 8, .int .i64 0⟩)], live := [0, 1, 2, 4, 51], dt := [], nw := true }
theorem cfg58_ok : TTok Try.prog cfg58.tt := (TTok.cons tok51 (TTok.cons tok3 TTok.nil))
def cfg59 : Cfg := { tt := [(51, ⟨.struct [(0, 3), (1, 3), (2, 3), (3, 3), (4, 3)], 5, 40, .agg #[.int .i64 0, .int .i64 0, .int .i64 0, .int .i64 0, .int .i64 0]⟩), (3, ⟨.int .i64, 1, 8, .int .i64 0⟩)], live := [0, 1, 2, 4, 5, 11, 21, 51], dt := [], nw := true }
theorem cfg59_ok : TTok Try.prog cfg59.tt := (TTok.cons tok51 (TTok.cons tok3 TTok.nil))
def cfg74 : Cfg := { tt := [(25, ⟨.slice 51, 1, 24, .slice none 0 0⟩), (3, ⟨.int .i64, 1, 8, .int .i64 0⟩), (79, ⟨.int .u64, 1, 8, .int .u64 0⟩), (51, ⟨.struct [(0, 3), (1, 3), (2, 3), (3, 3), (4, 3)], 5, 40, .agg #[.int .i64 0, .int .i64 0, .int .i64 0, .int .i64 0, .int .i64 0]⟩)], live := [0, 1, 2, 6, 7, 8, 9, 10, 11, 17, 31], dt := [], nw := true }
theorem cfg74_ok : TTok Try.prog cfg74.tt := (TTok.cons tok25 (TTok.cons tok3 (TTok.cons tok79 (TTok.cons tok51 TTok.nil))))
def cfg75 : Cfg := { tt := [(51, ⟨.struct [(0, 3), (1, 3), (2, 3), (3, 3), (4, 3)], 5, 40, .agg #[.int .i64 0, .int .i64 0, .int .i64 0, .int .i64 0, .int .i64 0]⟩), (3, ⟨.int .i64, 1, 8, .int .i64 0⟩)], live := [0, 1, 2, 4, 8], dt := [], nw := true }
theorem cfg75_ok : TTok Try.prog cfg75.tt := (TTok.cons tok51 (TTok.cons tok3 TTok.nil))
end Go.Proofs
