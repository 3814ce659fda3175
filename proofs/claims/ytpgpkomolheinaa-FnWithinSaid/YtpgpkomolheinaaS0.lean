/-
  The types of this seat.
-/
import Derived.Test.YtpgpkomolheinaaChecked
import Derived.Test.YtpgpkomolheinaaVxd
import Derived.KernelRfl
set_option linter.unusedVariables false
set_option linter.unusedSimpArgs false
namespace Go.Proofs.Ytpgpkomolheinaa
open Go.Vx

def tab : Tab := [
  (2, TI.mk true [.int .i64] false [] none (some .i64) false 8 false),
  (3, TI.mk true [.int .i64] false [] none (some .i64) false 8 false),
  (4, TI.mk true [.bool] false [] none none false 1 false),
  (5, TI.mk true [.int .u8] false [] none (some .u8) false 1 false),
  (6, TI.mk true [.int .u8] false [] none (some .u8) false 1 false),
  (7, TI.mk true [.int .i64, .int .i64, .bool, .int .u8] true [(0, 2), (1, 3), (2, 4), (3, 6)] none none false 24 true),
  (8, TI.mk true [.int .i64, .int .i64, .bool, .int .u8] true [(0, 2), (1, 3), (2, 4), (3, 6)] none none false 24 true),
  (9, TI.mk true [.str] false [] none none true 16 false),
  (10, TI.mk true [.str] false [] none none true 16 false),
  (11, TI.mk true [.str] false [] none none true 16 false),
  (12, TI.mk true [.int .u64] false [] none (some .u64) false 8 false),
  (13, TI.mk true [.str, .int .u64] true [(0, 9), (1, 12)] none none false 24 false),
  (14, TI.mk true [.str, .int .u64] true [(0, 9), (1, 12)] none none false 24 false),
  (21, TI.mk true [.int .i32] false [] none (some .i32) false 4 false),
  (22, TI.mk true [.sl 74 [.sl 78 [.str, .str], .int .i64, .int .i64, .str]] false [] (some 74) none false 24 false),
  (25, TI.mk true [.sl 53 [.sl 80 [.str, .str], .int .i64, .int .i64, .str]] false [] (some 53) none false 24 false),
  (28, TI.mk true [.sl 78 [.str, .str]] false [] (some 78) none false 24 false),
  (31, TI.mk true [.sl 80 [.str, .str]] false [] (some 80) none false 24 false),
  (37, TI.mk true [.sl 86 [.int .i64, .int .i64, .sl 78 [.str, .str], .int .i64, .int .i64, .str, .sl 78 [.str, .str], .int .i64, .int .i64, .int .i64, .sl 74 [.sl 78 [.str, .str], .int .i64, .int .i64, .str], .int .i64, .int .i64, .int .i64, .int .i64]] false [] (some 86) none false 24 false),
  (40, TI.mk true [.sl 89 [.int .i64, .int .i64, .sl 80 [.str, .str], .int .i64, .int .i64, .str, .sl 80 [.str, .str], .int .i64, .int .i64, .int .i64, .sl 53 [.sl 80 [.str, .str], .int .i64, .int .i64, .str], .int .i64, .int .i64, .int .i64, .int .i64]] false [] (some 89) none false 24 false),
  (44, TI.mk true [.sl 93 [.int .i64, .sl 78 [.str, .str], .int .i64, .sl 74 [.sl 78 [.str, .str], .int .i64, .int .i64, .str]]] false [] (some 93) none false 24 false),
  (47, TI.mk true [.sl 95 [.int .i64, .sl 80 [.str, .str], .int .i64, .sl 53 [.sl 80 [.str, .str], .int .i64, .int .i64, .str]]] false [] (some 95) none false 24 false),
  (52, TI.mk true [.sl 80 [.str, .str], .int .i64, .int .i64, .str] true [(0, 31), (1, 3), (2, 3), (3, 9)] none none false 56 false),
  (53, TI.mk true [.sl 80 [.str, .str], .int .i64, .int .i64, .str] true [(0, 31), (1, 3), (2, 3), (3, 9)] none none false 56 false),
  (60, TI.mk true [.sl 5 [.int .u8]] false [] (some 5) none false 24 false),
  (73, TI.mk true [.sl 78 [.str, .str], .int .i64, .int .i64, .str] true [(0, 28), (1, 3), (2, 3), (3, 9)] none none false 56 false),
  (74, TI.mk true [.sl 78 [.str, .str], .int .i64, .int .i64, .str] true [(0, 28), (1, 3), (2, 3), (3, 9)] none none false 56 false),
  (77, TI.mk true [.str, .str] true [(0, 9), (1, 9)] none none false 32 true),
  (78, TI.mk true [.str, .str] true [(0, 9), (1, 9)] none none false 32 true),
  (80, TI.mk true [.str, .str] true [(0, 9), (1, 9)] none none false 32 true),
  (85, TI.mk true [.int .i64, .int .i64, .sl 78 [.str, .str], .int .i64, .int .i64, .str, .sl 78 [.str, .str], .int .i64, .int .i64, .int .i64, .sl 74 [.sl 78 [.str, .str], .int .i64, .int .i64, .str], .int .i64, .int .i64, .int .i64, .int .i64] true [(0, 3), (1, 3), (2, 74), (6, 28), (7, 3), (8, 3), (9, 3), (10, 22), (11, 3), (12, 3), (13, 3), (14, 3)] none none false 176 false),
  (86, TI.mk true [.int .i64, .int .i64, .sl 78 [.str, .str], .int .i64, .int .i64, .str, .sl 78 [.str, .str], .int .i64, .int .i64, .int .i64, .sl 74 [.sl 78 [.str, .str], .int .i64, .int .i64, .str], .int .i64, .int .i64, .int .i64, .int .i64] true [(0, 3), (1, 3), (2, 74), (6, 28), (7, 3), (8, 3), (9, 3), (10, 22), (11, 3), (12, 3), (13, 3), (14, 3)] none none false 176 false),
  (88, TI.mk true [.int .i64, .int .i64, .sl 80 [.str, .str], .int .i64, .int .i64, .str, .sl 80 [.str, .str], .int .i64, .int .i64, .int .i64, .sl 53 [.sl 80 [.str, .str], .int .i64, .int .i64, .str], .int .i64, .int .i64, .int .i64, .int .i64] true [(0, 3), (1, 3), (2, 53), (6, 31), (7, 3), (8, 3), (9, 3), (10, 25), (11, 3), (12, 3), (13, 3), (14, 3)] none none false 176 false),
  (89, TI.mk true [.int .i64, .int .i64, .sl 80 [.str, .str], .int .i64, .int .i64, .str, .sl 80 [.str, .str], .int .i64, .int .i64, .int .i64, .sl 53 [.sl 80 [.str, .str], .int .i64, .int .i64, .str], .int .i64, .int .i64, .int .i64, .int .i64] true [(0, 3), (1, 3), (2, 53), (6, 31), (7, 3), (8, 3), (9, 3), (10, 25), (11, 3), (12, 3), (13, 3), (14, 3)] none none false 176 false),
  (92, TI.mk true [.int .i64, .sl 78 [.str, .str], .int .i64, .sl 74 [.sl 78 [.str, .str], .int .i64, .int .i64, .str]] true [(0, 3), (1, 28), (2, 3), (3, 22)] none none false 64 false),
  (93, TI.mk true [.int .i64, .sl 78 [.str, .str], .int .i64, .sl 74 [.sl 78 [.str, .str], .int .i64, .int .i64, .str]] true [(0, 3), (1, 28), (2, 3), (3, 22)] none none false 64 false),
  (94, TI.mk true [.int .i64, .sl 80 [.str, .str], .int .i64, .sl 53 [.sl 80 [.str, .str], .int .i64, .int .i64, .str]] true [(0, 3), (1, 31), (2, 3), (3, 25)] none none false 64 false),
  (95, TI.mk true [.int .i64, .sl 80 [.str, .str], .int .i64, .sl 53 [.sl 80 [.str, .str], .int .i64, .int .i64, .str]] true [(0, 3), (1, 31), (2, 3), (3, 25)] none none false 64 false),
  (106, TI.mk true [.sl 3 [.int .i64]] false [] (some 3) none false 24 false),
  (109, TI.mk true [.sl 5 [.int .u8], .int .i64, .int .i64] true [(0, 60), (1, 3), (2, 3)] none none false 40 false),
  (110, TI.mk true [.sl 5 [.int .u8], .int .i64, .int .i64] true [(0, 60), (1, 3), (2, 3)] none none false 40 false),
  (120, TI.mk true [.sl 9 [.str]] false [] (some 9) none false 24 false),
  (122, TI.mk true [.int .u64] false [] none (some .u64) false 8 false),
  (133, TI.mk true [.int .u64] false [] none (some .u64) false 8 false),
  (145, TI.mk true [.int .u32] false [] none (some .u32) false 4 false),
  (146, TI.mk true [.int .u8] false [] none (some .u8) false 1 false),
  (147, TI.mk true [.int .u8] false [] none (some .u8) false 1 false),
  (150, TI.mk true [.int .i32] false [] none (some .i32) false 4 false),
  (151, TI.mk true [.int .i32] false [] none (some .i32) false 4 false),
  (154, TI.mk true [.str, .int .u8] true [(0, 9), (1, 147)] none none false 24 false),
  (155, TI.mk true [.str, .int .u8] true [(0, 9), (1, 147)] none none false 24 false)
]

theorem tab_ok : tabOk Try.prog tab = true := by kernel_rfl
theorem mixed : Try.prog.follows .mixedOrders = true := by kernel_rfl
abbrev TT : TypeId → TI := tabT tab
theorem tok (t : TypeId) (h : (TT t).ok = true) : TOk Try.prog TT t := tabT_ok tab_ok t h

end Go.Proofs.Ytpgpkomolheinaa

