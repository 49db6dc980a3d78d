/- The engine at this program: the table of its types, and that it is the program's. Printed by wip/gen_tb.py. -/
import Derived.Test.YtjhoddlhdoiifaaGreatDoorEng
import Derived.Test.YtjhoddlhdoiifaaGreatDoorTab
import Derived.Test.YtjhoddlhdoiifaaGreatDoorSeg
namespace Go.Proofs.YtjhoddlhdoiifaaGreatDoor.eng
open Go.RowKit mem seg
def TB0 : List (Nat × Ty) :=
  [(23, ⟨3, 40, true, [.d (.v (.bool false)), .d (.v (.string ⟨#[]⟩)), .d (.v (.string ⟨#[]⟩))], [(0, 1), (1, 1), (2, 1)], none, false, [4, 9, 9]⟩),
   (25, ⟨6, 80, true, [.d (.v (.bool false)), .d (.v (.string ⟨#[]⟩)), .d (.v (.string ⟨#[]⟩)), .d (.v (.bool false)), .d (.v (.string ⟨#[]⟩)), .d (.v (.string ⟨#[]⟩))], [(0, 3), (3, 3)], none, false, [23, 23]⟩),
   (27, ⟨4, 48, true, [.d (.v (.bool false)), .d (.v (.bool false)), .d (.v (.string ⟨#[]⟩)), .d (.v (.string ⟨#[]⟩))], [(0, 1), (1, 3)], none, false, [4, 23]⟩),
   (29, ⟨10, 128, true, [.d (.v (.bool false)), .d (.v (.string ⟨#[]⟩)), .d (.v (.string ⟨#[]⟩)), .d (.v (.bool false)), .d (.v (.string ⟨#[]⟩)), .d (.v (.string ⟨#[]⟩)), .d (.v (.bool false)), .d (.v (.bool false)), .d (.v (.string ⟨#[]⟩)), .d (.v (.string ⟨#[]⟩))], [(0, 6), (6, 4)], none, false, [25, 27]⟩),
   (32, ⟨12, 168, true, [.d (.v (.string ⟨#[]⟩)), .d (.v (.bool false)), .d (.v (.string ⟨#[]⟩)), .d (.v (.string ⟨#[]⟩)), .d (.v (.bool false)), .d (.v (.string ⟨#[]⟩)), .d (.v (.string ⟨#[]⟩)), .d (.v (.bool false)), .d (.v (.bool false)), .d (.v (.string ⟨#[]⟩)), .d (.v (.string ⟨#[]⟩)), .d (.v (.slice none 0 0))], [(0, 1), (1, 10), (11, 1)], none, false, [9, 29, 30]⟩),
   (33, ⟨1, 8, false, [.d (.v (.int .i64 (0)))], [], none, false, []⟩),
   (46, ⟨16, 224, true, [.d (.v (.bool false)), .d (.v (.string ⟨#[]⟩)), .d (.v (.string ⟨#[]⟩)), .d (.v (.bool false)), .d (.v (.string ⟨#[]⟩)), .d (.v (.string ⟨#[]⟩)), .d (.v (.bool false)), .d (.v (.string ⟨#[]⟩)), .d (.v (.string ⟨#[]⟩)), .d (.v (.bool false)), .d (.v (.string ⟨#[]⟩)), .d (.v (.string ⟨#[]⟩)), .d (.v (.bool false)), .d (.v (.string ⟨#[]⟩)), .d (.v (.string ⟨#[]⟩)), .d (.v (.slice none 0 0))], [(0, 3), (3, 3), (6, 3), (9, 3), (12, 3), (15, 1)], none, false, [23, 23, 23, 23, 23, 44]⟩),
   (74, ⟨6, 80, true, [.d (.v (.bool false)), .d (.v (.string ⟨#[]⟩)), .d (.v (.string ⟨#[]⟩)), .d (.v (.bool false)), .d (.v (.string ⟨#[]⟩)), .d (.v (.string ⟨#[]⟩))], [(0, 3), (3, 3)], none, false, [23, 23]⟩),
   (76, ⟨12, 160, true, [.d (.v (.bool false)), .d (.v (.string ⟨#[]⟩)), .d (.v (.string ⟨#[]⟩)), .d (.v (.bool false)), .d (.v (.string ⟨#[]⟩)), .d (.v (.string ⟨#[]⟩)), .d (.v (.bool false)), .d (.v (.string ⟨#[]⟩)), .d (.v (.string ⟨#[]⟩)), .d (.v (.bool false)), .d (.v (.string ⟨#[]⟩)), .d (.v (.string ⟨#[]⟩))], [(0, 6), (6, 6)], none, false, [25, 25]⟩),
   (121, ⟨1, 24, false, [.d (.v (.slice none 0 0))], [], some 191, false, []⟩),
   (191, ⟨2, 32, true, [.d (.v (.int .i64 (0))), .d (.v (.slice none 0 0))], [(0, 1), (1, 1)], none, false, [3, 52]⟩),
   (30, ⟨1, 24, false, [.d (.v (.slice none 0 0))], [], some 46, false, []⟩)]
def TB1 : List (Nat × Ty) :=
  [(39, ⟨1, 24, false, [.d (.v (.slice none 0 0))], [], some 155, false, []⟩),
   (44, ⟨1, 24, false, [.d (.v (.slice none 0 0))], [], some 25, false, []⟩),
   (52, ⟨1, 24, false, [.d (.v (.slice none 0 0))], [], some 23, false, []⟩),
   (58, ⟨1, 24, false, [.d (.v (.slice none 0 0))], [], some 29, false, []⟩),
   (61, ⟨1, 24, false, [.d (.v (.slice none 0 0))], [], some 64, false, []⟩),
   (69, ⟨1, 24, false, [.d (.v (.slice none 0 0))], [], some 74, false, []⟩),
   (70, ⟨1, 24, false, [.d (.v (.slice none 0 0))], [], some 76, false, []⟩),
   (77, ⟨1, 24, false, [.d (.v (.slice none 0 0))], [], some 88, false, []⟩),
   (80, ⟨1, 24, false, [.d (.v (.slice none 0 0))], [], some 85, false, []⟩),
   (98, ⟨1, 24, false, [.d (.v (.slice none 0 0))], [], some 168, false, []⟩),
   (107, ⟨1, 24, false, [.d (.v (.slice none 0 0))], [], some 42, false, []⟩),
   (114, ⟨1, 24, false, [.d (.v (.slice none 0 0))], [], some 83, false, []⟩)]
def TB2 : List (Nat × Ty) :=
  [(120, ⟨1, 24, false, [.d (.v (.slice none 0 0))], [], some 191, false, []⟩),
   (130, ⟨1, 24, false, [.d (.v (.slice none 0 0))], [], some 131, false, []⟩),
   (134, ⟨1, 24, false, [.d (.v (.slice none 0 0))], [], some 44, false, []⟩),
   (138, ⟨1, 24, false, [.d (.v (.slice none 0 0))], [], some 98, false, []⟩),
   (147, ⟨1, 24, false, [.d (.v (.slice none 0 0))], [], some 3, false, []⟩),
   (211, ⟨1, 24, false, [.d (.v (.slice none 0 0))], [], some 5, false, []⟩),
   (265, ⟨1, 24, false, [.d (.v (.slice none 0 0))], [], some 152, false, []⟩),
   (2, ⟨1, 8, false, [.d (.v (.int .i64 (0)))], [], none, false, []⟩),
   (3, ⟨1, 8, false, [.d (.v (.int .i64 (0)))], [], none, false, []⟩),
   (4, ⟨1, 1, false, [.d (.v (.bool false))], [], none, false, []⟩),
   (5, ⟨1, 1, false, [.d (.v (.int .u8 (0)))], [], none, false, []⟩),
   (7, ⟨4, 24, true, [.d (.v (.int .i64 (0))), .d (.v (.int .i64 (0))), .d (.v (.bool false)), .d (.v (.int .u8 (0)))], [(0, 1), (1, 1), (2, 1), (3, 1)], none, false, [2, 3, 4, 6]⟩)]
def TB3 : List (Nat × Ty) :=
  [(9, ⟨1, 16, false, [.d (.v (.string ⟨#[]⟩))], [], none, true, []⟩),
   (12, ⟨1, 8, false, [.d (.v (.int .u64 (0)))], [], none, false, []⟩),
   (13, ⟨2, 24, true, [.d (.v (.string ⟨#[]⟩)), .d (.v (.int .u64 (0)))], [(0, 1), (1, 1)], none, false, [9, 12]⟩),
   (21, ⟨1, 4, false, [.d (.v (.int .i32 (0)))], [], none, false, []⟩),
   (22, ⟨3, 40, true, [.d (.v (.bool false)), .d (.v (.string ⟨#[]⟩)), .d (.v (.string ⟨#[]⟩))], [(0, 1), (1, 1), (2, 1)], none, false, [4, 9, 9]⟩),
   (24, ⟨6, 80, true, [.d (.v (.bool false)), .d (.v (.string ⟨#[]⟩)), .d (.v (.string ⟨#[]⟩)), .d (.v (.bool false)), .d (.v (.string ⟨#[]⟩)), .d (.v (.string ⟨#[]⟩))], [(0, 3), (3, 3)], none, false, [23, 23]⟩),
   (26, ⟨4, 48, true, [.d (.v (.bool false)), .d (.v (.bool false)), .d (.v (.string ⟨#[]⟩)), .d (.v (.string ⟨#[]⟩))], [(0, 1), (1, 3)], none, false, [4, 23]⟩),
   (28, ⟨10, 128, true, [.d (.v (.bool false)), .d (.v (.string ⟨#[]⟩)), .d (.v (.string ⟨#[]⟩)), .d (.v (.bool false)), .d (.v (.string ⟨#[]⟩)), .d (.v (.string ⟨#[]⟩)), .d (.v (.bool false)), .d (.v (.bool false)), .d (.v (.string ⟨#[]⟩)), .d (.v (.string ⟨#[]⟩))], [(0, 6), (6, 4)], none, false, [25, 27]⟩),
   (31, ⟨12, 168, true, [.d (.v (.string ⟨#[]⟩)), .d (.v (.bool false)), .d (.v (.string ⟨#[]⟩)), .d (.v (.string ⟨#[]⟩)), .d (.v (.bool false)), .d (.v (.string ⟨#[]⟩)), .d (.v (.string ⟨#[]⟩)), .d (.v (.bool false)), .d (.v (.bool false)), .d (.v (.string ⟨#[]⟩)), .d (.v (.string ⟨#[]⟩)), .d (.v (.slice none 0 0))], [(0, 1), (1, 10), (11, 1)], none, false, [9, 29, 30]⟩),
   (40, ⟨1, 24, false, [.d (.v (.slice none 0 0))], [], some 155, false, []⟩),
   (41, ⟨3, 56, true, [.d (.v (.bool false)), .d (.v (.slice none 0 0)), .d (.v (.slice none 0 0))], [(0, 1), (1, 1), (2, 1)], none, false, [4, 40, 40]⟩),
   (42, ⟨3, 56, true, [.d (.v (.bool false)), .d (.v (.slice none 0 0)), .d (.v (.slice none 0 0))], [(0, 1), (1, 1), (2, 1)], none, false, [4, 40, 40]⟩)]
def TB4 : List (Nat × Ty) :=
  [(45, ⟨16, 224, true, [.d (.v (.bool false)), .d (.v (.string ⟨#[]⟩)), .d (.v (.string ⟨#[]⟩)), .d (.v (.bool false)), .d (.v (.string ⟨#[]⟩)), .d (.v (.string ⟨#[]⟩)), .d (.v (.bool false)), .d (.v (.string ⟨#[]⟩)), .d (.v (.string ⟨#[]⟩)), .d (.v (.bool false)), .d (.v (.string ⟨#[]⟩)), .d (.v (.string ⟨#[]⟩)), .d (.v (.bool false)), .d (.v (.string ⟨#[]⟩)), .d (.v (.string ⟨#[]⟩)), .d (.v (.slice none 0 0))], [(0, 3), (3, 3), (6, 3), (9, 3), (12, 3), (15, 1)], none, false, [23, 23, 23, 23, 23, 44]⟩),
   (63, ⟨12, 224, true, [.d (.v (.bool false)), .d (.v (.slice none 0 0)), .d (.v (.slice none 0 0)), .d (.v (.bool false)), .d (.v (.slice none 0 0)), .d (.v (.slice none 0 0)), .d (.v (.bool false)), .d (.v (.slice none 0 0)), .d (.v (.slice none 0 0)), .d (.v (.bool false)), .d (.v (.slice none 0 0)), .d (.v (.slice none 0 0))], [(0, 3), (3, 3), (6, 3), (9, 3)], none, false, [42, 42, 42, 42]⟩),
   (64, ⟨12, 224, true, [.d (.v (.bool false)), .d (.v (.slice none 0 0)), .d (.v (.slice none 0 0)), .d (.v (.bool false)), .d (.v (.slice none 0 0)), .d (.v (.slice none 0 0)), .d (.v (.bool false)), .d (.v (.slice none 0 0)), .d (.v (.slice none 0 0)), .d (.v (.bool false)), .d (.v (.slice none 0 0)), .d (.v (.slice none 0 0))], [(0, 3), (3, 3), (6, 3), (9, 3)], none, false, [42, 42, 42, 42]⟩),
   (73, ⟨6, 80, true, [.d (.v (.bool false)), .d (.v (.string ⟨#[]⟩)), .d (.v (.string ⟨#[]⟩)), .d (.v (.bool false)), .d (.v (.string ⟨#[]⟩)), .d (.v (.string ⟨#[]⟩))], [(0, 3), (3, 3)], none, false, [23, 23]⟩),
   (75, ⟨12, 160, true, [.d (.v (.bool false)), .d (.v (.string ⟨#[]⟩)), .d (.v (.string ⟨#[]⟩)), .d (.v (.bool false)), .d (.v (.string ⟨#[]⟩)), .d (.v (.string ⟨#[]⟩)), .d (.v (.bool false)), .d (.v (.string ⟨#[]⟩)), .d (.v (.string ⟨#[]⟩)), .d (.v (.bool false)), .d (.v (.string ⟨#[]⟩)), .d (.v (.string ⟨#[]⟩))], [(0, 6), (6, 6)], none, false, [25, 25]⟩),
   (82, ⟨6, 112, true, [.d (.v (.bool false)), .d (.v (.slice none 0 0)), .d (.v (.slice none 0 0)), .d (.v (.bool false)), .d (.v (.slice none 0 0)), .d (.v (.slice none 0 0))], [(0, 3), (3, 3)], none, false, [42, 42]⟩),
   (83, ⟨6, 112, true, [.d (.v (.bool false)), .d (.v (.slice none 0 0)), .d (.v (.slice none 0 0)), .d (.v (.bool false)), .d (.v (.slice none 0 0)), .d (.v (.slice none 0 0))], [(0, 3), (3, 3)], none, false, [42, 42]⟩),
   (84, ⟨24, 448, true, [.d (.v (.bool false)), .d (.v (.slice none 0 0)), .d (.v (.slice none 0 0)), .d (.v (.bool false)), .d (.v (.slice none 0 0)), .d (.v (.slice none 0 0)), .d (.v (.bool false)), .d (.v (.slice none 0 0)), .d (.v (.slice none 0 0)), .d (.v (.bool false)), .d (.v (.slice none 0 0)), .d (.v (.slice none 0 0)), .d (.v (.bool false)), .d (.v (.slice none 0 0)), .d (.v (.slice none 0 0)), .d (.v (.bool false)), .d (.v (.slice none 0 0)), .d (.v (.slice none 0 0)), .d (.v (.bool false)), .d (.v (.slice none 0 0)), .d (.v (.slice none 0 0)), .d (.v (.bool false)), .d (.v (.slice none 0 0)), .d (.v (.slice none 0 0))], [(0, 6), (6, 6), (12, 6), (18, 6)], none, false, [83, 83, 83, 83]⟩),
   (85, ⟨24, 448, true, [.d (.v (.bool false)), .d (.v (.slice none 0 0)), .d (.v (.slice none 0 0)), .d (.v (.bool false)), .d (.v (.slice none 0 0)), .d (.v (.slice none 0 0)), .d (.v (.bool false)), .d (.v (.slice none 0 0)), .d (.v (.slice none 0 0)), .d (.v (.bool false)), .d (.v (.slice none 0 0)), .d (.v (.slice none 0 0)), .d (.v (.bool false)), .d (.v (.slice none 0 0)), .d (.v (.slice none 0 0)), .d (.v (.bool false)), .d (.v (.slice none 0 0)), .d (.v (.slice none 0 0)), .d (.v (.bool false)), .d (.v (.slice none 0 0)), .d (.v (.slice none 0 0)), .d (.v (.bool false)), .d (.v (.slice none 0 0)), .d (.v (.slice none 0 0))], [(0, 6), (6, 6), (12, 6), (18, 6)], none, false, [83, 83, 83, 83]⟩),
   (87, ⟨24, 320, true, [.d (.v (.bool false)), .d (.v (.string ⟨#[]⟩)), .d (.v (.string ⟨#[]⟩)), .d (.v (.bool false)), .d (.v (.string ⟨#[]⟩)), .d (.v (.string ⟨#[]⟩)), .d (.v (.bool false)), .d (.v (.string ⟨#[]⟩)), .d (.v (.string ⟨#[]⟩)), .d (.v (.bool false)), .d (.v (.string ⟨#[]⟩)), .d (.v (.string ⟨#[]⟩)), .d (.v (.bool false)), .d (.v (.string ⟨#[]⟩)), .d (.v (.string ⟨#[]⟩)), .d (.v (.bool false)), .d (.v (.string ⟨#[]⟩)), .d (.v (.string ⟨#[]⟩)), .d (.v (.bool false)), .d (.v (.string ⟨#[]⟩)), .d (.v (.string ⟨#[]⟩)), .d (.v (.bool false)), .d (.v (.string ⟨#[]⟩)), .d (.v (.string ⟨#[]⟩))], [(0, 6), (6, 6), (12, 6), (18, 6)], none, false, [74, 74, 74, 74]⟩),
   (88, ⟨24, 320, true, [.d (.v (.bool false)), .d (.v (.string ⟨#[]⟩)), .d (.v (.string ⟨#[]⟩)), .d (.v (.bool false)), .d (.v (.string ⟨#[]⟩)), .d (.v (.string ⟨#[]⟩)), .d (.v (.bool false)), .d (.v (.string ⟨#[]⟩)), .d (.v (.string ⟨#[]⟩)), .d (.v (.bool false)), .d (.v (.string ⟨#[]⟩)), .d (.v (.string ⟨#[]⟩)), .d (.v (.bool false)), .d (.v (.string ⟨#[]⟩)), .d (.v (.string ⟨#[]⟩)), .d (.v (.bool false)), .d (.v (.string ⟨#[]⟩)), .d (.v (.string ⟨#[]⟩)), .d (.v (.bool false)), .d (.v (.string ⟨#[]⟩)), .d (.v (.string ⟨#[]⟩)), .d (.v (.bool false)), .d (.v (.string ⟨#[]⟩)), .d (.v (.string ⟨#[]⟩))], [(0, 6), (6, 6), (12, 6), (18, 6)], none, false, [74, 74, 74, 74]⟩),
   (152, ⟨1, 8, false, [.d (.v (.int .u64 (0)))], [], none, false, []⟩)]
def TB5 : List (Nat × Ty) :=
  [(155, ⟨1, 4, false, [.d (.v (.int .u32 (0)))], [], none, false, []⟩),
   (156, ⟨1, 8, false, [.d (.v (.int .u64 (0)))], [], none, false, []⟩),
   (167, ⟨6, 112, true, [.d (.v (.bool false)), .d (.v (.slice none 0 0)), .d (.v (.slice none 0 0)), .d (.v (.bool false)), .d (.v (.slice none 0 0)), .d (.v (.slice none 0 0))], [(0, 3), (3, 3)], none, false, [42, 42]⟩),
   (168, ⟨6, 112, true, [.d (.v (.bool false)), .d (.v (.slice none 0 0)), .d (.v (.slice none 0 0)), .d (.v (.bool false)), .d (.v (.slice none 0 0)), .d (.v (.slice none 0 0))], [(0, 3), (3, 3)], none, false, [42, 42]⟩),
   (190, ⟨2, 32, true, [.d (.v (.int .i64 (0))), .d (.v (.slice none 0 0))], [(0, 1), (1, 1)], none, false, [3, 52]⟩),
   (279, ⟨2, 2, true, [.d (.v (.int .u8 (0))), .d (.v (.int .u8 (0)))], [(0, 1), (1, 1)], none, false, [5, 5]⟩),
   (280, ⟨2, 2, true, [.d (.v (.int .u8 (0))), .d (.v (.int .u8 (0)))], [(0, 1), (1, 1)], none, false, [5, 5]⟩)]
def TBall (P : Program) : List (Nat × Ty) → Prop
  | [] => True
  | e :: r => tyOf P e.1 = some e.2 ∧ TBall P r
set_option maxRecDepth 100000 in
theorem tb0_ok : TBall Tryz.prog TB0 :=
  ⟨by kernel_rfl, by kernel_rfl, by kernel_rfl, by kernel_rfl, by kernel_rfl, by kernel_rfl, by kernel_rfl, by kernel_rfl, by kernel_rfl, by kernel_rfl, by kernel_rfl, by kernel_rfl, trivial⟩
set_option maxRecDepth 100000 in
theorem tb1_ok : TBall Tryz.prog TB1 :=
  ⟨by kernel_rfl, by kernel_rfl, by kernel_rfl, by kernel_rfl, by kernel_rfl, by kernel_rfl, by kernel_rfl, by kernel_rfl, by kernel_rfl, by kernel_rfl, by kernel_rfl, by kernel_rfl, trivial⟩
set_option maxRecDepth 100000 in
theorem tb2_ok : TBall Tryz.prog TB2 :=
  ⟨by kernel_rfl, by kernel_rfl, by kernel_rfl, by kernel_rfl, by kernel_rfl, by kernel_rfl, by kernel_rfl, by kernel_rfl, by kernel_rfl, by kernel_rfl, by kernel_rfl, by kernel_rfl, trivial⟩
set_option maxRecDepth 100000 in
theorem tb3_ok : TBall Tryz.prog TB3 :=
  ⟨by kernel_rfl, by kernel_rfl, by kernel_rfl, by kernel_rfl, by kernel_rfl, by kernel_rfl, by kernel_rfl, by kernel_rfl, by kernel_rfl, by kernel_rfl, by kernel_rfl, by kernel_rfl, trivial⟩
set_option maxRecDepth 100000 in
theorem tb4_ok : TBall Tryz.prog TB4 :=
  ⟨by kernel_rfl, by kernel_rfl, by kernel_rfl, by kernel_rfl, by kernel_rfl, by kernel_rfl, by kernel_rfl, by kernel_rfl, by kernel_rfl, by kernel_rfl, by kernel_rfl, by kernel_rfl, trivial⟩
set_option maxRecDepth 100000 in
theorem tb5_ok : TBall Tryz.prog TB5 :=
  ⟨by kernel_rfl, by kernel_rfl, by kernel_rfl, by kernel_rfl, by kernel_rfl, by kernel_rfl, by kernel_rfl, trivial⟩
def TB : List (Nat × Ty) := [(23, ⟨3, 40, true, [.d (.v (.bool false)), .d (.v (.string ⟨#[]⟩)), .d (.v (.string ⟨#[]⟩))], [(0, 1), (1, 1), (2, 1)], none, false, [4, 9, 9]⟩),
   (25, ⟨6, 80, true, [.d (.v (.bool false)), .d (.v (.string ⟨#[]⟩)), .d (.v (.string ⟨#[]⟩)), .d (.v (.bool false)), .d (.v (.string ⟨#[]⟩)), .d (.v (.string ⟨#[]⟩))], [(0, 3), (3, 3)], none, false, [23, 23]⟩),
   (27, ⟨4, 48, true, [.d (.v (.bool false)), .d (.v (.bool false)), .d (.v (.string ⟨#[]⟩)), .d (.v (.string ⟨#[]⟩))], [(0, 1), (1, 3)], none, false, [4, 23]⟩),
   (29, ⟨10, 128, true, [.d (.v (.bool false)), .d (.v (.string ⟨#[]⟩)), .d (.v (.string ⟨#[]⟩)), .d (.v (.bool false)), .d (.v (.string ⟨#[]⟩)), .d (.v (.string ⟨#[]⟩)), .d (.v (.bool false)), .d (.v (.bool false)), .d (.v (.string ⟨#[]⟩)), .d (.v (.string ⟨#[]⟩))], [(0, 6), (6, 4)], none, false, [25, 27]⟩),
   (32, ⟨12, 168, true, [.d (.v (.string ⟨#[]⟩)), .d (.v (.bool false)), .d (.v (.string ⟨#[]⟩)), .d (.v (.string ⟨#[]⟩)), .d (.v (.bool false)), .d (.v (.string ⟨#[]⟩)), .d (.v (.string ⟨#[]⟩)), .d (.v (.bool false)), .d (.v (.bool false)), .d (.v (.string ⟨#[]⟩)), .d (.v (.string ⟨#[]⟩)), .d (.v (.slice none 0 0))], [(0, 1), (1, 10), (11, 1)], none, false, [9, 29, 30]⟩),
   (33, ⟨1, 8, false, [.d (.v (.int .i64 (0)))], [], none, false, []⟩),
   (46, ⟨16, 224, true, [.d (.v (.bool false)), .d (.v (.string ⟨#[]⟩)), .d (.v (.string ⟨#[]⟩)), .d (.v (.bool false)), .d (.v (.string ⟨#[]⟩)), .d (.v (.string ⟨#[]⟩)), .d (.v (.bool false)), .d (.v (.string ⟨#[]⟩)), .d (.v (.string ⟨#[]⟩)), .d (.v (.bool false)), .d (.v (.string ⟨#[]⟩)), .d (.v (.string ⟨#[]⟩)), .d (.v (.bool false)), .d (.v (.string ⟨#[]⟩)), .d (.v (.string ⟨#[]⟩)), .d (.v (.slice none 0 0))], [(0, 3), (3, 3), (6, 3), (9, 3), (12, 3), (15, 1)], none, false, [23, 23, 23, 23, 23, 44]⟩),
   (74, ⟨6, 80, true, [.d (.v (.bool false)), .d (.v (.string ⟨#[]⟩)), .d (.v (.string ⟨#[]⟩)), .d (.v (.bool false)), .d (.v (.string ⟨#[]⟩)), .d (.v (.string ⟨#[]⟩))], [(0, 3), (3, 3)], none, false, [23, 23]⟩),
   (76, ⟨12, 160, true, [.d (.v (.bool false)), .d (.v (.string ⟨#[]⟩)), .d (.v (.string ⟨#[]⟩)), .d (.v (.bool false)), .d (.v (.string ⟨#[]⟩)), .d (.v (.string ⟨#[]⟩)), .d (.v (.bool false)), .d (.v (.string ⟨#[]⟩)), .d (.v (.string ⟨#[]⟩)), .d (.v (.bool false)), .d (.v (.string ⟨#[]⟩)), .d (.v (.string ⟨#[]⟩))], [(0, 6), (6, 6)], none, false, [25, 25]⟩),
   (121, ⟨1, 24, false, [.d (.v (.slice none 0 0))], [], some 191, false, []⟩),
   (191, ⟨2, 32, true, [.d (.v (.int .i64 (0))), .d (.v (.slice none 0 0))], [(0, 1), (1, 1)], none, false, [3, 52]⟩),
   (30, ⟨1, 24, false, [.d (.v (.slice none 0 0))], [], some 46, false, []⟩), (39, ⟨1, 24, false, [.d (.v (.slice none 0 0))], [], some 155, false, []⟩),
   (44, ⟨1, 24, false, [.d (.v (.slice none 0 0))], [], some 25, false, []⟩),
   (52, ⟨1, 24, false, [.d (.v (.slice none 0 0))], [], some 23, false, []⟩),
   (58, ⟨1, 24, false, [.d (.v (.slice none 0 0))], [], some 29, false, []⟩),
   (61, ⟨1, 24, false, [.d (.v (.slice none 0 0))], [], some 64, false, []⟩),
   (69, ⟨1, 24, false, [.d (.v (.slice none 0 0))], [], some 74, false, []⟩),
   (70, ⟨1, 24, false, [.d (.v (.slice none 0 0))], [], some 76, false, []⟩),
   (77, ⟨1, 24, false, [.d (.v (.slice none 0 0))], [], some 88, false, []⟩),
   (80, ⟨1, 24, false, [.d (.v (.slice none 0 0))], [], some 85, false, []⟩),
   (98, ⟨1, 24, false, [.d (.v (.slice none 0 0))], [], some 168, false, []⟩),
   (107, ⟨1, 24, false, [.d (.v (.slice none 0 0))], [], some 42, false, []⟩),
   (114, ⟨1, 24, false, [.d (.v (.slice none 0 0))], [], some 83, false, []⟩), (120, ⟨1, 24, false, [.d (.v (.slice none 0 0))], [], some 191, false, []⟩),
   (130, ⟨1, 24, false, [.d (.v (.slice none 0 0))], [], some 131, false, []⟩),
   (134, ⟨1, 24, false, [.d (.v (.slice none 0 0))], [], some 44, false, []⟩),
   (138, ⟨1, 24, false, [.d (.v (.slice none 0 0))], [], some 98, false, []⟩),
   (147, ⟨1, 24, false, [.d (.v (.slice none 0 0))], [], some 3, false, []⟩),
   (211, ⟨1, 24, false, [.d (.v (.slice none 0 0))], [], some 5, false, []⟩),
   (265, ⟨1, 24, false, [.d (.v (.slice none 0 0))], [], some 152, false, []⟩),
   (2, ⟨1, 8, false, [.d (.v (.int .i64 (0)))], [], none, false, []⟩),
   (3, ⟨1, 8, false, [.d (.v (.int .i64 (0)))], [], none, false, []⟩),
   (4, ⟨1, 1, false, [.d (.v (.bool false))], [], none, false, []⟩),
   (5, ⟨1, 1, false, [.d (.v (.int .u8 (0)))], [], none, false, []⟩),
   (7, ⟨4, 24, true, [.d (.v (.int .i64 (0))), .d (.v (.int .i64 (0))), .d (.v (.bool false)), .d (.v (.int .u8 (0)))], [(0, 1), (1, 1), (2, 1), (3, 1)], none, false, [2, 3, 4, 6]⟩), (9, ⟨1, 16, false, [.d (.v (.string ⟨#[]⟩))], [], none, true, []⟩),
   (12, ⟨1, 8, false, [.d (.v (.int .u64 (0)))], [], none, false, []⟩),
   (13, ⟨2, 24, true, [.d (.v (.string ⟨#[]⟩)), .d (.v (.int .u64 (0)))], [(0, 1), (1, 1)], none, false, [9, 12]⟩),
   (21, ⟨1, 4, false, [.d (.v (.int .i32 (0)))], [], none, false, []⟩),
   (22, ⟨3, 40, true, [.d (.v (.bool false)), .d (.v (.string ⟨#[]⟩)), .d (.v (.string ⟨#[]⟩))], [(0, 1), (1, 1), (2, 1)], none, false, [4, 9, 9]⟩),
   (24, ⟨6, 80, true, [.d (.v (.bool false)), .d (.v (.string ⟨#[]⟩)), .d (.v (.string ⟨#[]⟩)), .d (.v (.bool false)), .d (.v (.string ⟨#[]⟩)), .d (.v (.string ⟨#[]⟩))], [(0, 3), (3, 3)], none, false, [23, 23]⟩),
   (26, ⟨4, 48, true, [.d (.v (.bool false)), .d (.v (.bool false)), .d (.v (.string ⟨#[]⟩)), .d (.v (.string ⟨#[]⟩))], [(0, 1), (1, 3)], none, false, [4, 23]⟩),
   (28, ⟨10, 128, true, [.d (.v (.bool false)), .d (.v (.string ⟨#[]⟩)), .d (.v (.string ⟨#[]⟩)), .d (.v (.bool false)), .d (.v (.string ⟨#[]⟩)), .d (.v (.string ⟨#[]⟩)), .d (.v (.bool false)), .d (.v (.bool false)), .d (.v (.string ⟨#[]⟩)), .d (.v (.string ⟨#[]⟩))], [(0, 6), (6, 4)], none, false, [25, 27]⟩),
   (31, ⟨12, 168, true, [.d (.v (.string ⟨#[]⟩)), .d (.v (.bool false)), .d (.v (.string ⟨#[]⟩)), .d (.v (.string ⟨#[]⟩)), .d (.v (.bool false)), .d (.v (.string ⟨#[]⟩)), .d (.v (.string ⟨#[]⟩)), .d (.v (.bool false)), .d (.v (.bool false)), .d (.v (.string ⟨#[]⟩)), .d (.v (.string ⟨#[]⟩)), .d (.v (.slice none 0 0))], [(0, 1), (1, 10), (11, 1)], none, false, [9, 29, 30]⟩),
   (40, ⟨1, 24, false, [.d (.v (.slice none 0 0))], [], some 155, false, []⟩),
   (41, ⟨3, 56, true, [.d (.v (.bool false)), .d (.v (.slice none 0 0)), .d (.v (.slice none 0 0))], [(0, 1), (1, 1), (2, 1)], none, false, [4, 40, 40]⟩),
   (42, ⟨3, 56, true, [.d (.v (.bool false)), .d (.v (.slice none 0 0)), .d (.v (.slice none 0 0))], [(0, 1), (1, 1), (2, 1)], none, false, [4, 40, 40]⟩), (45, ⟨16, 224, true, [.d (.v (.bool false)), .d (.v (.string ⟨#[]⟩)), .d (.v (.string ⟨#[]⟩)), .d (.v (.bool false)), .d (.v (.string ⟨#[]⟩)), .d (.v (.string ⟨#[]⟩)), .d (.v (.bool false)), .d (.v (.string ⟨#[]⟩)), .d (.v (.string ⟨#[]⟩)), .d (.v (.bool false)), .d (.v (.string ⟨#[]⟩)), .d (.v (.string ⟨#[]⟩)), .d (.v (.bool false)), .d (.v (.string ⟨#[]⟩)), .d (.v (.string ⟨#[]⟩)), .d (.v (.slice none 0 0))], [(0, 3), (3, 3), (6, 3), (9, 3), (12, 3), (15, 1)], none, false, [23, 23, 23, 23, 23, 44]⟩),
   (63, ⟨12, 224, true, [.d (.v (.bool false)), .d (.v (.slice none 0 0)), .d (.v (.slice none 0 0)), .d (.v (.bool false)), .d (.v (.slice none 0 0)), .d (.v (.slice none 0 0)), .d (.v (.bool false)), .d (.v (.slice none 0 0)), .d (.v (.slice none 0 0)), .d (.v (.bool false)), .d (.v (.slice none 0 0)), .d (.v (.slice none 0 0))], [(0, 3), (3, 3), (6, 3), (9, 3)], none, false, [42, 42, 42, 42]⟩),
   (64, ⟨12, 224, true, [.d (.v (.bool false)), .d (.v (.slice none 0 0)), .d (.v (.slice none 0 0)), .d (.v (.bool false)), .d (.v (.slice none 0 0)), .d (.v (.slice none 0 0)), .d (.v (.bool false)), .d (.v (.slice none 0 0)), .d (.v (.slice none 0 0)), .d (.v (.bool false)), .d (.v (.slice none 0 0)), .d (.v (.slice none 0 0))], [(0, 3), (3, 3), (6, 3), (9, 3)], none, false, [42, 42, 42, 42]⟩),
   (73, ⟨6, 80, true, [.d (.v (.bool false)), .d (.v (.string ⟨#[]⟩)), .d (.v (.string ⟨#[]⟩)), .d (.v (.bool false)), .d (.v (.string ⟨#[]⟩)), .d (.v (.string ⟨#[]⟩))], [(0, 3), (3, 3)], none, false, [23, 23]⟩),
   (75, ⟨12, 160, true, [.d (.v (.bool false)), .d (.v (.string ⟨#[]⟩)), .d (.v (.string ⟨#[]⟩)), .d (.v (.bool false)), .d (.v (.string ⟨#[]⟩)), .d (.v (.string ⟨#[]⟩)), .d (.v (.bool false)), .d (.v (.string ⟨#[]⟩)), .d (.v (.string ⟨#[]⟩)), .d (.v (.bool false)), .d (.v (.string ⟨#[]⟩)), .d (.v (.string ⟨#[]⟩))], [(0, 6), (6, 6)], none, false, [25, 25]⟩),
   (82, ⟨6, 112, true, [.d (.v (.bool false)), .d (.v (.slice none 0 0)), .d (.v (.slice none 0 0)), .d (.v (.bool false)), .d (.v (.slice none 0 0)), .d (.v (.slice none 0 0))], [(0, 3), (3, 3)], none, false, [42, 42]⟩),
   (83, ⟨6, 112, true, [.d (.v (.bool false)), .d (.v (.slice none 0 0)), .d (.v (.slice none 0 0)), .d (.v (.bool false)), .d (.v (.slice none 0 0)), .d (.v (.slice none 0 0))], [(0, 3), (3, 3)], none, false, [42, 42]⟩),
   (84, ⟨24, 448, true, [.d (.v (.bool false)), .d (.v (.slice none 0 0)), .d (.v (.slice none 0 0)), .d (.v (.bool false)), .d (.v (.slice none 0 0)), .d (.v (.slice none 0 0)), .d (.v (.bool false)), .d (.v (.slice none 0 0)), .d (.v (.slice none 0 0)), .d (.v (.bool false)), .d (.v (.slice none 0 0)), .d (.v (.slice none 0 0)), .d (.v (.bool false)), .d (.v (.slice none 0 0)), .d (.v (.slice none 0 0)), .d (.v (.bool false)), .d (.v (.slice none 0 0)), .d (.v (.slice none 0 0)), .d (.v (.bool false)), .d (.v (.slice none 0 0)), .d (.v (.slice none 0 0)), .d (.v (.bool false)), .d (.v (.slice none 0 0)), .d (.v (.slice none 0 0))], [(0, 6), (6, 6), (12, 6), (18, 6)], none, false, [83, 83, 83, 83]⟩),
   (85, ⟨24, 448, true, [.d (.v (.bool false)), .d (.v (.slice none 0 0)), .d (.v (.slice none 0 0)), .d (.v (.bool false)), .d (.v (.slice none 0 0)), .d (.v (.slice none 0 0)), .d (.v (.bool false)), .d (.v (.slice none 0 0)), .d (.v (.slice none 0 0)), .d (.v (.bool false)), .d (.v (.slice none 0 0)), .d (.v (.slice none 0 0)), .d (.v (.bool false)), .d (.v (.slice none 0 0)), .d (.v (.slice none 0 0)), .d (.v (.bool false)), .d (.v (.slice none 0 0)), .d (.v (.slice none 0 0)), .d (.v (.bool false)), .d (.v (.slice none 0 0)), .d (.v (.slice none 0 0)), .d (.v (.bool false)), .d (.v (.slice none 0 0)), .d (.v (.slice none 0 0))], [(0, 6), (6, 6), (12, 6), (18, 6)], none, false, [83, 83, 83, 83]⟩),
   (87, ⟨24, 320, true, [.d (.v (.bool false)), .d (.v (.string ⟨#[]⟩)), .d (.v (.string ⟨#[]⟩)), .d (.v (.bool false)), .d (.v (.string ⟨#[]⟩)), .d (.v (.string ⟨#[]⟩)), .d (.v (.bool false)), .d (.v (.string ⟨#[]⟩)), .d (.v (.string ⟨#[]⟩)), .d (.v (.bool false)), .d (.v (.string ⟨#[]⟩)), .d (.v (.string ⟨#[]⟩)), .d (.v (.bool false)), .d (.v (.string ⟨#[]⟩)), .d (.v (.string ⟨#[]⟩)), .d (.v (.bool false)), .d (.v (.string ⟨#[]⟩)), .d (.v (.string ⟨#[]⟩)), .d (.v (.bool false)), .d (.v (.string ⟨#[]⟩)), .d (.v (.string ⟨#[]⟩)), .d (.v (.bool false)), .d (.v (.string ⟨#[]⟩)), .d (.v (.string ⟨#[]⟩))], [(0, 6), (6, 6), (12, 6), (18, 6)], none, false, [74, 74, 74, 74]⟩),
   (88, ⟨24, 320, true, [.d (.v (.bool false)), .d (.v (.string ⟨#[]⟩)), .d (.v (.string ⟨#[]⟩)), .d (.v (.bool false)), .d (.v (.string ⟨#[]⟩)), .d (.v (.string ⟨#[]⟩)), .d (.v (.bool false)), .d (.v (.string ⟨#[]⟩)), .d (.v (.string ⟨#[]⟩)), .d (.v (.bool false)), .d (.v (.string ⟨#[]⟩)), .d (.v (.string ⟨#[]⟩)), .d (.v (.bool false)), .d (.v (.string ⟨#[]⟩)), .d (.v (.string ⟨#[]⟩)), .d (.v (.bool false)), .d (.v (.string ⟨#[]⟩)), .d (.v (.string ⟨#[]⟩)), .d (.v (.bool false)), .d (.v (.string ⟨#[]⟩)), .d (.v (.string ⟨#[]⟩)), .d (.v (.bool false)), .d (.v (.string ⟨#[]⟩)), .d (.v (.string ⟨#[]⟩))], [(0, 6), (6, 6), (12, 6), (18, 6)], none, false, [74, 74, 74, 74]⟩),
   (152, ⟨1, 8, false, [.d (.v (.int .u64 (0)))], [], none, false, []⟩), (155, ⟨1, 4, false, [.d (.v (.int .u32 (0)))], [], none, false, []⟩),
   (156, ⟨1, 8, false, [.d (.v (.int .u64 (0)))], [], none, false, []⟩),
   (167, ⟨6, 112, true, [.d (.v (.bool false)), .d (.v (.slice none 0 0)), .d (.v (.slice none 0 0)), .d (.v (.bool false)), .d (.v (.slice none 0 0)), .d (.v (.slice none 0 0))], [(0, 3), (3, 3)], none, false, [42, 42]⟩),
   (168, ⟨6, 112, true, [.d (.v (.bool false)), .d (.v (.slice none 0 0)), .d (.v (.slice none 0 0)), .d (.v (.bool false)), .d (.v (.slice none 0 0)), .d (.v (.slice none 0 0))], [(0, 3), (3, 3)], none, false, [42, 42]⟩),
   (190, ⟨2, 32, true, [.d (.v (.int .i64 (0))), .d (.v (.slice none 0 0))], [(0, 1), (1, 1)], none, false, [3, 52]⟩),
   (279, ⟨2, 2, true, [.d (.v (.int .u8 (0))), .d (.v (.int .u8 (0)))], [(0, 1), (1, 1)], none, false, [5, 5]⟩),
   (280, ⟨2, 2, true, [.d (.v (.int .u8 (0))), .d (.v (.int .u8 (0)))], [(0, 1), (1, 1)], none, false, [5, 5]⟩)]
theorem TBall.mem {P : Program} {L : List (Nat × Ty)} (h : TBall P L) {e : Nat × Ty} (he : e ∈ L) : tyOf P e.1 = some e.2 := by
  induction L with
  | nil => simp at he
  | cons x r ih =>
    rcases List.mem_cons.1 he with rfl | he
    · exact h.1
    · exact ih h.2 he
set_option maxRecDepth 100000 in
theorem tb_eq : TB = TB0 ++ TB1 ++ TB2 ++ TB3 ++ TB4 ++ TB5 := by kernel_rfl
theorem tb_ok : TBok Tryz.prog TB := by
  intro t ty h
  rw [tb_eq] at h
  simp only [List.mem_append] at h
  rcases h with ((((h | h) | h) | h) | h) | h
  · exact TBall.mem (e := (t, ty)) tb0_ok h
  · exact TBall.mem (e := (t, ty)) tb1_ok h
  · exact TBall.mem (e := (t, ty)) tb2_ok h
  · exact TBall.mem (e := (t, ty)) tb3_ok h
  · exact TBall.mem (e := (t, ty)) tb4_ok h
  · exact TBall.mem (e := (t, ty)) tb5_ok h
def prmOf (P : Program) (nt : Nat) : Prm := ⟨P, Tab, TB, nt⟩
theorem mixed : Tryz.prog.follows .mixedOrders = true := by kernel_rfl
end Go.Proofs.YtjhoddlhdoiifaaGreatDoor.eng
