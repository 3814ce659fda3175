/-
  The types of this seat.
-/
import Derived.Test.YtmfbmdipchnmaaaDoorChecked
import Derived.Test.YtmfbmdipchnmaaaDoorVxc
import Derived.KernelRfl
set_option linter.unusedVariables false
set_option linter.unusedSimpArgs false
namespace Go.Proofs.YtmfbmdipchnmaaaDoor
open Go.Vx

def tab : Tab := [
  (2, TI.mk true [.int .i64] false [] none (some .i64) false 8 false),
  (3, TI.mk true [.int .i64] false [] none (some .i64) false 8 false),
  (4, TI.mk true [.bool] false [] none none false 1 false),
  (5, TI.mk true [.int .u8] false [] none (some .u8) false 1 false),
  (6, TI.mk true [.int .u8] false [] none (some .u8) false 1 false),
  (7, TI.mk true [.int .i64, .int .i64, .bool, .int .u8] true [(0, 2), (1, 3), (2, 4), (3, 6)] none none false 24 true),
  (8, TI.mk true [.int .i64, .int .i64, .bool, .int .u8] true [(0, 2), (1, 3), (2, 4), (3, 6)] none none false 24 true),
  (9, TI.mk true [.str] false [] none none true 16 false),
  (10, TI.mk true [.str] false [] none none true 16 false),
  (11, TI.mk true [.str] false [] none none true 16 false),
  (12, TI.mk true [.int .u64] false [] none (some .u64) false 8 false),
  (13, TI.mk true [.str, .int .u64] true [(0, 9), (1, 12)] none none false 24 false),
  (14, TI.mk true [.str, .int .u64] true [(0, 9), (1, 12)] none none false 24 false),
  (21, TI.mk true [.int .i32] false [] none (some .i32) false 4 false),
  (22, TI.mk true [.sl 35 [.sl 97 [.str, .str], .int .i64, .int .i64, .str]] false [] (some 35) none false 24 false),
  (23, TI.mk true [.sl 35 [.sl 97 [.str, .str], .int .i64, .int .i64, .str], .bool] true [(0, 22), (1, 4)] none none false 32 false),
  (24, TI.mk true [.sl 35 [.sl 97 [.str, .str], .int .i64, .int .i64, .str], .bool] true [(0, 22), (1, 4)] none none false 32 false),
  (27, TI.mk true [.sl 43 [.sl 99 [.str, .str], .int .i64, .int .i64, .str]] false [] (some 43) none false 24 false),
  (28, TI.mk true [.sl 43 [.sl 99 [.str, .str], .int .i64, .int .i64, .str], .bool] true [(0, 27), (1, 4)] none none false 32 false),
  (29, TI.mk true [.sl 43 [.sl 99 [.str, .str], .int .i64, .int .i64, .str], .bool] true [(0, 27), (1, 4)] none none false 32 false),
  (33, TI.mk true [.sl 97 [.str, .str]] false [] (some 97) none false 24 false),
  (34, TI.mk true [.sl 97 [.str, .str], .int .i64, .int .i64, .str] true [(0, 33), (1, 3), (2, 3), (3, 9)] none none false 56 false),
  (35, TI.mk true [.sl 97 [.str, .str], .int .i64, .int .i64, .str] true [(0, 33), (1, 3), (2, 3), (3, 9)] none none false 56 false),
  (36, TI.mk true [.sl 3 [.int .i64]] false [] (some 3) none false 24 false),
  (37, TI.mk true [.int .i64, .int .i64, .sl 97 [.str, .str], .int .i64, .int .i64, .str, .sl 97 [.str, .str], .int .i64, .sl 3 [.int .i64], .sl 35 [.sl 97 [.str, .str], .int .i64, .int .i64, .str], .int .i64, .int .i64] true [(0, 3), (1, 3), (2, 35), (6, 33), (7, 3), (8, 36), (9, 22), (10, 3), (11, 3)] none none false 168 false),
  (38, TI.mk true [.int .i64, .int .i64, .sl 97 [.str, .str], .int .i64, .int .i64, .str, .sl 97 [.str, .str], .int .i64, .sl 3 [.int .i64], .sl 35 [.sl 97 [.str, .str], .int .i64, .int .i64, .str], .int .i64, .int .i64] true [(0, 3), (1, 3), (2, 35), (6, 33), (7, 3), (8, 36), (9, 22), (10, 3), (11, 3)] none none false 168 false),
  (41, TI.mk true [.sl 99 [.str, .str]] false [] (some 99) none false 24 false),
  (42, TI.mk true [.sl 99 [.str, .str], .int .i64, .int .i64, .str] true [(0, 41), (1, 3), (2, 3), (3, 9)] none none false 56 false),
  (43, TI.mk true [.sl 99 [.str, .str], .int .i64, .int .i64, .str] true [(0, 41), (1, 3), (2, 3), (3, 9)] none none false 56 false),
  (44, TI.mk true [.int .i64, .int .i64, .sl 99 [.str, .str], .int .i64, .int .i64, .str, .sl 99 [.str, .str], .int .i64, .sl 3 [.int .i64], .sl 43 [.sl 99 [.str, .str], .int .i64, .int .i64, .str], .int .i64, .int .i64] true [(0, 3), (1, 3), (2, 43), (6, 41), (7, 3), (8, 36), (9, 27), (10, 3), (11, 3)] none none false 168 false),
  (45, TI.mk true [.int .i64, .int .i64, .sl 99 [.str, .str], .int .i64, .int .i64, .str, .sl 99 [.str, .str], .int .i64, .sl 3 [.int .i64], .sl 43 [.sl 99 [.str, .str], .int .i64, .int .i64, .str], .int .i64, .int .i64] true [(0, 3), (1, 3), (2, 43), (6, 41), (7, 3), (8, 36), (9, 27), (10, 3), (11, 3)] none none false 168 false),
  (54, TI.mk true [.int .i64, .int .i64, .sl 97 [.str, .str], .int .i64, .int .i64, .str, .sl 97 [.str, .str], .int .i64, .int .i64, .int .i64, .sl 35 [.sl 97 [.str, .str], .int .i64, .int .i64, .str], .int .i64, .int .i64, .int .i64, .int .i64] true [(0, 3), (1, 3), (2, 35), (6, 33), (7, 3), (8, 3), (9, 3), (10, 22), (11, 3), (12, 3), (13, 3), (14, 3)] none none false 176 false),
  (55, TI.mk true [.int .i64, .int .i64, .sl 97 [.str, .str], .int .i64, .int .i64, .str, .sl 97 [.str, .str], .int .i64, .int .i64, .int .i64, .sl 35 [.sl 97 [.str, .str], .int .i64, .int .i64, .str], .int .i64, .int .i64, .int .i64, .int .i64] true [(0, 3), (1, 3), (2, 35), (6, 33), (7, 3), (8, 3), (9, 3), (10, 22), (11, 3), (12, 3), (13, 3), (14, 3)] none none false 176 false),
  (58, TI.mk true [.int .i64, .int .i64, .sl 99 [.str, .str], .int .i64, .int .i64, .str, .sl 99 [.str, .str], .int .i64, .int .i64, .int .i64, .sl 43 [.sl 99 [.str, .str], .int .i64, .int .i64, .str], .int .i64, .int .i64, .int .i64, .int .i64] true [(0, 3), (1, 3), (2, 43), (6, 41), (7, 3), (8, 3), (9, 3), (10, 27), (11, 3), (12, 3), (13, 3), (14, 3)] none none false 176 false),
  (59, TI.mk true [.int .i64, .int .i64, .sl 99 [.str, .str], .int .i64, .int .i64, .str, .sl 99 [.str, .str], .int .i64, .int .i64, .int .i64, .sl 43 [.sl 99 [.str, .str], .int .i64, .int .i64, .str], .int .i64, .int .i64, .int .i64, .int .i64] true [(0, 3), (1, 3), (2, 43), (6, 41), (7, 3), (8, 3), (9, 3), (10, 27), (11, 3), (12, 3), (13, 3), (14, 3)] none none false 176 false),
  (70, TI.mk true [.sl 9 [.str]] false [] (some 9) none false 24 false),
  (96, TI.mk true [.str, .str] true [(0, 9), (1, 9)] none none false 32 true),
  (97, TI.mk true [.str, .str] true [(0, 9), (1, 9)] none none false 32 true),
  (98, TI.mk true [.sl 5 [.int .u8]] false [] (some 5) none false 24 false),
  (99, TI.mk true [.str, .str] true [(0, 9), (1, 9)] none none false 32 true),
  (126, TI.mk true [.int .u64] false [] none (some .u64) false 8 false),
  (131, TI.mk true [.int .u64] false [] none (some .u64) false 8 false),
  (136, TI.mk true [.int .u32] false [] none (some .u32) false 4 false),
  (140, TI.mk true [.int .u8, .int .u8] true [(0, 5), (1, 5)] none none false 2 true),
  (141, TI.mk true [.int .u8, .int .u8] true [(0, 5), (1, 5)] none none false 2 true),
  (157, TI.mk true [.int .u8] false [] none (some .u8) false 1 false),
  (158, TI.mk true [.int .u8] false [] none (some .u8) false 1 false),
  (160, TI.mk true [.int .i32] false [] none (some .i32) false 4 false),
  (161, TI.mk true [.int .i32] false [] none (some .i32) false 4 false)
]

theorem tab_ok : tabOk Tryd.prog tab = true := by kernel_rfl
theorem mixed : Tryd.prog.follows .mixedOrders = true := by kernel_rfl
abbrev TT : TypeId → TI := tabT tab
theorem tok (t : TypeId) (h : (TT t).ok = true) : TOk Tryd.prog TT t := tabT_ok tab_ok t h

end Go.Proofs.YtmfbmdipchnmaaaDoor
