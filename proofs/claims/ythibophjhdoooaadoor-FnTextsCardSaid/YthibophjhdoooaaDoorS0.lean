/-
  The types of this seat.
-/
import Derived.Test.YthibophjhdoooaaDoorChecked
import Derived.Test.YthibophjhdoooaaDoorVxd
import Derived.KernelRfl
set_option linter.unusedVariables false
set_option linter.unusedSimpArgs false
namespace Go.Proofs.YthibophjhdoooaaDoor
open Go.Vx

def tab : Tab := [
  (2, TI.mk true [.int .i64] false [] none (some .i64) false 8 false),
  (3, TI.mk true [.int .i64] false [] none (some .i64) false 8 false),
  (4, TI.mk true [.bool] false [] none none false 1 false),
  (5, TI.mk true [.int .u8] false [] none (some .u8) false 1 false),
  (6, TI.mk true [.int .u8] false [] none (some .u8) false 1 false),
  (7, TI.mk true [.int .i64, .int .i64, .bool, .int .u8] true [(0, 2), (1, 3), (2, 4), (3, 6)] none none false 24 true),
  (8, TI.mk true [.int .i64, .int .i64, .bool, .int .u8] true [(0, 2), (1, 3), (2, 4), (3, 6)] none none false 24 true),
  (9, TI.mk true [.str] false [] none none true 16 false),
  (10, TI.mk true [.str] false [] none none true 16 false),
  (11, TI.mk true [.str] false [] none none true 16 false),
  (12, TI.mk true [.int .u64] false [] none (some .u64) false 8 false),
  (13, TI.mk true [.str, .int .u64] true [(0, 9), (1, 12)] none none false 24 false),
  (14, TI.mk true [.str, .int .u64] true [(0, 9), (1, 12)] none none false 24 false),
  (21, TI.mk true [.int .i32] false [] none (some .i32) false 4 false),
  (22, TI.mk true [.sl 5 [.int .u8]] false [] (some 5) none false 24 false),
  (24, TI.mk true [.sl 70 [.str, .str]] false [] (some 70) none false 24 false),
  (25, TI.mk true [.sl 70 [.str, .str], .int .i64, .int .i64, .str] true [(0, 24), (1, 3), (2, 3), (3, 9)] none none false 56 false),
  (26, TI.mk true [.sl 70 [.str, .str], .int .i64, .int .i64, .str] true [(0, 24), (1, 3), (2, 3), (3, 9)] none none false 56 false),
  (48, TI.mk true [.sl 9 [.str]] false [] (some 9) none false 24 false),
  (59, TI.mk true [.sl 5 [.int .u8], .int .i64, .int .i64] true [(0, 22), (1, 3), (2, 3)] none none false 40 false),
  (60, TI.mk true [.sl 5 [.int .u8], .int .i64, .int .i64] true [(0, 22), (1, 3), (2, 3)] none none false 40 false),
  (64, TI.mk true [.sl 3 [.int .i64]] false [] (some 3) none false 24 false),
  (69, TI.mk true [.str, .str] true [(0, 9), (1, 9)] none none false 32 true),
  (70, TI.mk true [.str, .str] true [(0, 9), (1, 9)] none none false 32 true),
  (84, TI.mk true [.int .u64] false [] none (some .u64) false 8 false),
  (89, TI.mk true [.int .u32] false [] none (some .u32) false 4 false),
  (96, TI.mk true [.int .u64] false [] none (some .u64) false 8 false),
  (115, TI.mk true [.int .u8] false [] none (some .u8) false 1 false),
  (116, TI.mk true [.int .u8] false [] none (some .u8) false 1 false),
  (118, TI.mk true [.int .i32] false [] none (some .i32) false 4 false),
  (119, TI.mk true [.int .i32] false [] none (some .i32) false 4 false)
]

theorem tab_ok : tabOk Tryd.prog tab = true := by kernel_rfl
theorem mixed : Tryd.prog.follows .mixedOrders = true := by kernel_rfl
abbrev TT : TypeId → TI := tabT tab
theorem tok (t : TypeId) (h : (TT t).ok = true) : TOk Tryd.prog TT t := tabT_ok tab_ok t h

end Go.Proofs.YthibophjhdoooaaDoor

