/-
  The types of this seat.
-/
import Derived.Test.YthibophjhdoooaaGreatDoorChecked
import Derived.Test.YthibophjhdoooaaGreatDoorVxd
import Derived.KernelRfl
set_option linter.unusedVariables false
set_option linter.unusedSimpArgs false
namespace Go.Proofs.YthibophjhdoooaaGreatDoor
open Go.Vx

def tab : Tab := [
  (2, TI.mk true [.int .i64] false [] none (some .i64) false 8 false),
  (3, TI.mk true [.int .i64] false [] none (some .i64) false 8 false),
  (4, TI.mk true [.bool] false [] none none false 1 false),
  (5, TI.mk true [.int .u8] false [] none (some .u8) false 1 false),
  (6, TI.mk true [.int .u8] false [] none (some .u8) false 1 false),
  (7, TI.mk true [.int .i64, .int .i64, .bool, .int .u8] true [(0, 2), (1, 3), (2, 4), (3, 6)] none none false 24 true),
  (8, TI.mk true [.int .i64, .int .i64, .bool, .int .u8] true [(0, 2), (1, 3), (2, 4), (3, 6)] none none false 24 true),
  (9, TI.mk true [.str] false [] none none true 16 false),
  (10, TI.mk true [.str] false [] none none true 16 false),
  (11, TI.mk true [.str] false [] none none true 16 false),
  (12, TI.mk true [.int .u64] false [] none (some .u64) false 8 false),
  (13, TI.mk true [.str, .int .u64] true [(0, 9), (1, 12)] none none false 24 false),
  (14, TI.mk true [.str, .int .u64] true [(0, 9), (1, 12)] none none false 24 false),
  (21, TI.mk true [.int .i32] false [] none (some .i32) false 4 false),
  (22, TI.mk true [.sl 5 [.int .u8]] false [] (some 5) none false 24 false),
  (24, TI.mk true [.sl 82 [.str, .str]] false [] (some 82) none false 24 false),
  (25, TI.mk true [.sl 82 [.str, .str], .int .i64, .int .i64, .str] true [(0, 24), (1, 3), (2, 3), (3, 9)] none none false 56 false),
  (26, TI.mk true [.sl 82 [.str, .str], .int .i64, .int .i64, .str] true [(0, 24), (1, 3), (2, 3), (3, 9)] none none false 56 false),
  (27, TI.mk true [.sl 26 [.sl 82 [.str, .str], .int .i64, .int .i64, .str]] false [] (some 26) none false 24 false),
  (28, TI.mk true [.int .i64, .int .i64, .sl 82 [.str, .str], .int .i64, .int .i64, .str, .sl 82 [.str, .str], .int .i64, .int .i64, .int .i64, .sl 26 [.sl 82 [.str, .str], .int .i64, .int .i64, .str], .int .i64, .int .i64, .int .i64, .int .i64] true [(0, 3), (1, 3), (2, 26), (6, 24), (7, 3), (8, 3), (9, 3), (10, 27), (11, 3), (12, 3), (13, 3), (14, 3)] none none false 176 false),
  (29, TI.mk true [.int .i64, .int .i64, .sl 82 [.str, .str], .int .i64, .int .i64, .str, .sl 82 [.str, .str], .int .i64, .int .i64, .int .i64, .sl 26 [.sl 82 [.str, .str], .int .i64, .int .i64, .str], .int .i64, .int .i64, .int .i64, .int .i64] true [(0, 3), (1, 3), (2, 26), (6, 24), (7, 3), (8, 3), (9, 3), (10, 27), (11, 3), (12, 3), (13, 3), (14, 3)] none none false 176 false),
  (31, TI.mk true [.sl 3 [.int .i64]] false [] (some 3) none false 24 false),
  (32, TI.mk true [.int .i64, .int .i64, .sl 82 [.str, .str], .int .i64, .int .i64, .str, .sl 82 [.str, .str], .int .i64, .sl 3 [.int .i64], .sl 26 [.sl 82 [.str, .str], .int .i64, .int .i64, .str], .int .i64, .int .i64] true [(0, 3), (1, 3), (2, 26), (6, 24), (7, 3), (8, 31), (9, 27), (10, 3), (11, 3)] none none false 168 false),
  (33, TI.mk true [.int .i64, .int .i64, .sl 82 [.str, .str], .int .i64, .int .i64, .str, .sl 82 [.str, .str], .int .i64, .sl 3 [.int .i64], .sl 26 [.sl 82 [.str, .str], .int .i64, .int .i64, .str], .int .i64, .int .i64] true [(0, 3), (1, 3), (2, 26), (6, 24), (7, 3), (8, 31), (9, 27), (10, 3), (11, 3)] none none false 168 false),
  (35, TI.mk true [.int .i64, .sl 82 [.str, .str], .int .i64, .sl 26 [.sl 82 [.str, .str], .int .i64, .int .i64, .str]] true [(0, 3), (1, 24), (2, 3), (3, 27)] none none false 64 false),
  (36, TI.mk true [.int .i64, .sl 82 [.str, .str], .int .i64, .sl 26 [.sl 82 [.str, .str], .int .i64, .int .i64, .str]] true [(0, 3), (1, 24), (2, 3), (3, 27)] none none false 64 false),
  (39, TI.mk true [.sl 26 [.sl 82 [.str, .str], .int .i64, .int .i64, .str], .bool] true [(0, 27), (1, 4)] none none false 32 false),
  (40, TI.mk true [.sl 26 [.sl 82 [.str, .str], .int .i64, .int .i64, .str], .bool] true [(0, 27), (1, 4)] none none false 32 false),
  (51, TI.mk true [.int .i64, .sl 82 [.str, .str], .int .i64, .int .i64, .sl 26 [.sl 82 [.str, .str], .int .i64, .int .i64, .str]] true [(0, 3), (1, 24), (2, 3), (3, 3), (4, 27)] none none false 72 false),
  (52, TI.mk true [.int .i64, .sl 82 [.str, .str], .int .i64, .int .i64, .sl 26 [.sl 82 [.str, .str], .int .i64, .int .i64, .str]] true [(0, 3), (1, 24), (2, 3), (3, 3), (4, 27)] none none false 72 false),
  (56, TI.mk true [.sl 9 [.str]] false [] (some 9) none false 24 false),
  (67, TI.mk true [.sl 5 [.int .u8], .int .i64, .int .i64] true [(0, 22), (1, 3), (2, 3)] none none false 40 false),
  (68, TI.mk true [.sl 5 [.int .u8], .int .i64, .int .i64] true [(0, 22), (1, 3), (2, 3)] none none false 40 false),
  (81, TI.mk true [.str, .str] true [(0, 9), (1, 9)] none none false 32 true),
  (82, TI.mk true [.str, .str] true [(0, 9), (1, 9)] none none false 32 true),
  (99, TI.mk true [.int .u64] false [] none (some .u64) false 8 false),
  (120, TI.mk true [.int .u64] false [] none (some .u64) false 8 false),
  (128, TI.mk true [.int .u32] false [] none (some .u32) false 4 false),
  (133, TI.mk true [.int .u8, .int .u8] true [(0, 5), (1, 5)] none none false 2 true),
  (134, TI.mk true [.int .u8, .int .u8] true [(0, 5), (1, 5)] none none false 2 true),
  (147, TI.mk true [.int .u8] false [] none (some .u8) false 1 false),
  (148, TI.mk true [.int .u8] false [] none (some .u8) false 1 false),
  (150, TI.mk true [.int .i32] false [] none (some .i32) false 4 false),
  (151, TI.mk true [.int .i32] false [] none (some .i32) false 4 false)
]

theorem tab_ok : tabOk Tryz.prog tab = true := by kernel_rfl
theorem mixed : Tryz.prog.follows .mixedOrders = true := by kernel_rfl
abbrev TT : TypeId → TI := tabT tab
theorem tok (t : TypeId) (h : (TT t).ok = true) : TOk Tryz.prog TT t := tabT_ok tab_ok t h

end Go.Proofs.YthibophjhdoooaaGreatDoor

