/- The engine at this program: the table of its types, and that it is the program's. Printed by wip/gen_tb.py. -/
import Derived.Test.YtpejadencgfnnaaGreatDoorEng
import Derived.Test.YtpejadencgfnnaaGreatDoorTab
import Derived.Test.YtpejadencgfnnaaGreatDoorSeg
namespace Go.Proofs.YtpejadencgfnnaaGreatDoor.eng
open Go.RowKit mem seg
def TB0 : List (Nat × Ty) :=
  [(23, ⟨3, 40, true, [.d (.v (.bool false)), .d (.v (.string ⟨#[]⟩)), .d (.v (.string ⟨#[]⟩))], [(0, 1), (1, 1), (2, 1)], none, false, [4, 9, 9], none⟩),
   (25, ⟨6, 80, true, [.d (.v (.bool false)), .d (.v (.string ⟨#[]⟩)), .d (.v (.string ⟨#[]⟩)), .d (.v (.bool false)), .d (.v (.string ⟨#[]⟩)), .d (.v (.string ⟨#[]⟩))], [(0, 3), (3, 3)], none, false, [23, 23], none⟩),
   (27, ⟨4, 48, true, [.d (.v (.bool false)), .d (.v (.bool false)), .d (.v (.string ⟨#[]⟩)), .d (.v (.string ⟨#[]⟩))], [(0, 1), (1, 3)], none, false, [4, 23], none⟩),
   (29, ⟨10, 128, true, [.d (.v (.bool false)), .d (.v (.string ⟨#[]⟩)), .d (.v (.string ⟨#[]⟩)), .d (.v (.bool false)), .d (.v (.string ⟨#[]⟩)), .d (.v (.string ⟨#[]⟩)), .d (.v (.bool false)), .d (.v (.bool false)), .d (.v (.string ⟨#[]⟩)), .d (.v (.string ⟨#[]⟩))], [(0, 6), (6, 4)], none, false, [25, 27], none⟩),
   (32, ⟨12, 168, true, [.d (.v (.string ⟨#[]⟩)), .d (.v (.bool false)), .d (.v (.string ⟨#[]⟩)), .d (.v (.string ⟨#[]⟩)), .d (.v (.bool false)), .d (.v (.string ⟨#[]⟩)), .d (.v (.string ⟨#[]⟩)), .d (.v (.bool false)), .d (.v (.bool false)), .d (.v (.string ⟨#[]⟩)), .d (.v (.string ⟨#[]⟩)), .d (.v (.slice none 0 0))], [(0, 1), (1, 10), (11, 1)], none, false, [9, 29, 30], none⟩),
   (35, ⟨1, 8, false, [.d (.v (.int .i64 (0)))], [], none, false, [], none⟩),
   (41, ⟨6, 80, true, [.d (.v (.bool false)), .d (.v (.string ⟨#[]⟩)), .d (.v (.string ⟨#[]⟩)), .d (.v (.bool false)), .d (.v (.string ⟨#[]⟩)), .d (.v (.string ⟨#[]⟩))], [(0, 3), (3, 3)], none, false, [23, 23], none⟩),
   (43, ⟨12, 160, true, [.d (.v (.bool false)), .d (.v (.string ⟨#[]⟩)), .d (.v (.string ⟨#[]⟩)), .d (.v (.bool false)), .d (.v (.string ⟨#[]⟩)), .d (.v (.string ⟨#[]⟩)), .d (.v (.bool false)), .d (.v (.string ⟨#[]⟩)), .d (.v (.string ⟨#[]⟩)), .d (.v (.bool false)), .d (.v (.string ⟨#[]⟩)), .d (.v (.string ⟨#[]⟩))], [(0, 6), (6, 6)], none, false, [25, 25], none⟩),
   (82, ⟨1, 24, false, [.d (.v (.slice none 0 0))], [], some 86, false, [], none⟩),
   (86, ⟨2, 32, true, [.d (.v (.int .i64 (0))), .d (.v (.slice none 0 0))], [(0, 1), (1, 1)], none, false, [3, 59], none⟩),
   (127, ⟨16, 224, true, [.d (.v (.bool false)), .d (.v (.string ⟨#[]⟩)), .d (.v (.string ⟨#[]⟩)), .d (.v (.bool false)), .d (.v (.string ⟨#[]⟩)), .d (.v (.string ⟨#[]⟩)), .d (.v (.bool false)), .d (.v (.string ⟨#[]⟩)), .d (.v (.string ⟨#[]⟩)), .d (.v (.bool false)), .d (.v (.string ⟨#[]⟩)), .d (.v (.string ⟨#[]⟩)), .d (.v (.bool false)), .d (.v (.string ⟨#[]⟩)), .d (.v (.string ⟨#[]⟩)), .d (.v (.slice none 0 0))], [(0, 3), (3, 3), (6, 3), (9, 3), (12, 3), (15, 1)], none, false, [23, 23, 23, 23, 23, 100], none⟩),
   (30, ⟨1, 24, false, [.d (.v (.slice none 0 0))], [], some 127, false, [], none⟩)]
def TB1 : List (Nat × Ty) :=
  [(33, ⟨1, 24, false, [.d (.v (.slice none 0 0))], [], some 41, false, [], none⟩),
   (34, ⟨1, 24, false, [.d (.v (.slice none 0 0))], [], some 43, false, [], none⟩),
   (47, ⟨1, 24, false, [.d (.v (.slice none 0 0))], [], some 54, false, [], none⟩),
   (48, ⟨1, 24, false, [.d (.v (.slice none 0 0))], [], some 217, false, [], none⟩),
   (59, ⟨1, 24, false, [.d (.v (.slice none 0 0))], [], some 23, false, [], none⟩),
   (60, ⟨1, 24, false, [.d (.v (.slice none 0 0))], [], some 100, false, [], none⟩),
   (66, ⟨1, 24, false, [.d (.v (.slice none 0 0))], [], some 59, false, [], none⟩),
   (81, ⟨1, 24, false, [.d (.v (.slice none 0 0))], [], some 86, false, [], none⟩),
   (100, ⟨1, 24, false, [.d (.v (.slice none 0 0))], [], some 25, false, [], none⟩),
   (104, ⟨1, 24, false, [.d (.v (.slice none 0 0))], [], some 107, false, [], none⟩),
   (107, ⟨1, 24, false, [.d (.v (.slice none 0 0))], [], some 111, false, [], none⟩),
   (120, ⟨1, 24, false, [.d (.v (.slice none 0 0))], [], some 131, false, [], none⟩)]
def TB2 : List (Nat × Ty) :=
  [(157, ⟨1, 24, false, [.d (.v (.slice none 0 0))], [], some 163, false, [], none⟩),
   (166, ⟨1, 24, false, [.d (.v (.slice none 0 0))], [], some 3, false, [], none⟩),
   (167, ⟨1, 24, false, [.d (.v (.slice none 0 0))], [], some 170, false, [], none⟩),
   (174, ⟨1, 24, false, [.d (.v (.slice none 0 0))], [], some 33, false, [], none⟩),
   (190, ⟨1, 24, false, [.d (.v (.slice none 0 0))], [], some 82, false, [], none⟩),
   (192, ⟨1, 24, false, [.d (.v (.slice none 0 0))], [], some 51, false, [], none⟩),
   (195, ⟨1, 24, false, [.d (.v (.slice none 0 0))], [], some 29, false, [], none⟩),
   (199, ⟨1, 24, false, [.d (.v (.slice none 0 0))], [], some 202, false, [], none⟩),
   (233, ⟨1, 24, false, [.d (.v (.slice none 0 0))], [], some 5, false, [], none⟩),
   (327, ⟨1, 24, false, [.d (.v (.slice none 0 0))], [], some 214, false, [], none⟩),
   (2, ⟨1, 8, false, [.d (.v (.int .i64 (0)))], [], none, false, [], none⟩),
   (3, ⟨1, 8, false, [.d (.v (.int .i64 (0)))], [], none, false, [], none⟩)]
def TB3 : List (Nat × Ty) :=
  [(4, ⟨1, 1, false, [.d (.v (.bool false))], [], none, false, [], none⟩),
   (5, ⟨1, 1, false, [.d (.v (.int .u8 (0)))], [], none, false, [], none⟩),
   (7, ⟨4, 24, true, [.d (.v (.int .i64 (0))), .d (.v (.int .i64 (0))), .d (.v (.bool false)), .d (.v (.int .u8 (0)))], [(0, 1), (1, 1), (2, 1), (3, 1)], none, false, [2, 3, 4, 6], none⟩),
   (9, ⟨1, 16, false, [.d (.v (.string ⟨#[]⟩))], [], none, true, [], none⟩),
   (12, ⟨1, 8, false, [.d (.v (.int .u64 (0)))], [], none, false, [], none⟩),
   (13, ⟨2, 24, true, [.d (.v (.string ⟨#[]⟩)), .d (.v (.int .u64 (0)))], [(0, 1), (1, 1)], none, false, [9, 12], none⟩),
   (21, ⟨1, 4, false, [.d (.v (.int .i32 (0)))], [], none, false, [], none⟩),
   (22, ⟨3, 40, true, [.d (.v (.bool false)), .d (.v (.string ⟨#[]⟩)), .d (.v (.string ⟨#[]⟩))], [(0, 1), (1, 1), (2, 1)], none, false, [4, 9, 9], none⟩),
   (24, ⟨6, 80, true, [.d (.v (.bool false)), .d (.v (.string ⟨#[]⟩)), .d (.v (.string ⟨#[]⟩)), .d (.v (.bool false)), .d (.v (.string ⟨#[]⟩)), .d (.v (.string ⟨#[]⟩))], [(0, 3), (3, 3)], none, false, [23, 23], none⟩),
   (26, ⟨4, 48, true, [.d (.v (.bool false)), .d (.v (.bool false)), .d (.v (.string ⟨#[]⟩)), .d (.v (.string ⟨#[]⟩))], [(0, 1), (1, 3)], none, false, [4, 23], none⟩),
   (28, ⟨10, 128, true, [.d (.v (.bool false)), .d (.v (.string ⟨#[]⟩)), .d (.v (.string ⟨#[]⟩)), .d (.v (.bool false)), .d (.v (.string ⟨#[]⟩)), .d (.v (.string ⟨#[]⟩)), .d (.v (.bool false)), .d (.v (.bool false)), .d (.v (.string ⟨#[]⟩)), .d (.v (.string ⟨#[]⟩))], [(0, 6), (6, 4)], none, false, [25, 27], none⟩),
   (31, ⟨12, 168, true, [.d (.v (.string ⟨#[]⟩)), .d (.v (.bool false)), .d (.v (.string ⟨#[]⟩)), .d (.v (.string ⟨#[]⟩)), .d (.v (.bool false)), .d (.v (.string ⟨#[]⟩)), .d (.v (.string ⟨#[]⟩)), .d (.v (.bool false)), .d (.v (.bool false)), .d (.v (.string ⟨#[]⟩)), .d (.v (.string ⟨#[]⟩)), .d (.v (.slice none 0 0))], [(0, 1), (1, 10), (11, 1)], none, false, [9, 29, 30], none⟩)]
def TB4 : List (Nat × Ty) :=
  [(40, ⟨6, 80, true, [.d (.v (.bool false)), .d (.v (.string ⟨#[]⟩)), .d (.v (.string ⟨#[]⟩)), .d (.v (.bool false)), .d (.v (.string ⟨#[]⟩)), .d (.v (.string ⟨#[]⟩))], [(0, 3), (3, 3)], none, false, [23, 23], none⟩),
   (42, ⟨12, 160, true, [.d (.v (.bool false)), .d (.v (.string ⟨#[]⟩)), .d (.v (.string ⟨#[]⟩)), .d (.v (.bool false)), .d (.v (.string ⟨#[]⟩)), .d (.v (.string ⟨#[]⟩)), .d (.v (.bool false)), .d (.v (.string ⟨#[]⟩)), .d (.v (.string ⟨#[]⟩)), .d (.v (.bool false)), .d (.v (.string ⟨#[]⟩)), .d (.v (.string ⟨#[]⟩))], [(0, 6), (6, 6)], none, false, [25, 25], none⟩),
   (49, ⟨1, 24, false, [.d (.v (.slice none 0 0))], [], some 217, false, [], none⟩),
   (50, ⟨3, 56, true, [.d (.v (.bool false)), .d (.v (.slice none 0 0)), .d (.v (.slice none 0 0))], [(0, 1), (1, 1), (2, 1)], none, false, [4, 49, 49], none⟩),
   (51, ⟨3, 56, true, [.d (.v (.bool false)), .d (.v (.slice none 0 0)), .d (.v (.slice none 0 0))], [(0, 1), (1, 1), (2, 1)], none, false, [4, 49, 49], none⟩),
   (52, ⟨6, 112, true, [.d (.v (.bool false)), .d (.v (.slice none 0 0)), .d (.v (.slice none 0 0)), .d (.v (.bool false)), .d (.v (.slice none 0 0)), .d (.v (.slice none 0 0))], [(0, 3), (3, 3)], none, false, [51, 51], none⟩),
   (53, ⟨6, 112, true, [.d (.v (.bool false)), .d (.v (.slice none 0 0)), .d (.v (.slice none 0 0)), .d (.v (.bool false)), .d (.v (.slice none 0 0)), .d (.v (.slice none 0 0))], [(0, 3), (3, 3)], none, false, [51, 51], none⟩),
   (54, ⟨12, 224, true, [.d (.v (.bool false)), .d (.v (.slice none 0 0)), .d (.v (.slice none 0 0)), .d (.v (.bool false)), .d (.v (.slice none 0 0)), .d (.v (.slice none 0 0)), .d (.v (.bool false)), .d (.v (.slice none 0 0)), .d (.v (.slice none 0 0)), .d (.v (.bool false)), .d (.v (.slice none 0 0)), .d (.v (.slice none 0 0))], [], none, false, [], some (2, 53)⟩),
   (85, ⟨2, 32, true, [.d (.v (.int .i64 (0))), .d (.v (.slice none 0 0))], [(0, 1), (1, 1)], none, false, [3, 59], none⟩),
   (110, ⟨6, 112, true, [.d (.v (.bool false)), .d (.v (.slice none 0 0)), .d (.v (.slice none 0 0)), .d (.v (.bool false)), .d (.v (.slice none 0 0)), .d (.v (.slice none 0 0))], [(0, 3), (3, 3)], none, false, [51, 51], none⟩),
   (111, ⟨6, 112, true, [.d (.v (.bool false)), .d (.v (.slice none 0 0)), .d (.v (.slice none 0 0)), .d (.v (.bool false)), .d (.v (.slice none 0 0)), .d (.v (.slice none 0 0))], [(0, 3), (3, 3)], none, false, [51, 51], none⟩),
   (126, ⟨16, 224, true, [.d (.v (.bool false)), .d (.v (.string ⟨#[]⟩)), .d (.v (.string ⟨#[]⟩)), .d (.v (.bool false)), .d (.v (.string ⟨#[]⟩)), .d (.v (.string ⟨#[]⟩)), .d (.v (.bool false)), .d (.v (.string ⟨#[]⟩)), .d (.v (.string ⟨#[]⟩)), .d (.v (.bool false)), .d (.v (.string ⟨#[]⟩)), .d (.v (.string ⟨#[]⟩)), .d (.v (.bool false)), .d (.v (.string ⟨#[]⟩)), .d (.v (.string ⟨#[]⟩)), .d (.v (.slice none 0 0))], [(0, 3), (3, 3), (6, 3), (9, 3), (12, 3), (15, 1)], none, false, [23, 23, 23, 23, 23, 100], none⟩)]
def TB5 : List (Nat × Ty) :=
  [(162, ⟨24, 320, true, [.d (.v (.bool false)), .d (.v (.string ⟨#[]⟩)), .d (.v (.string ⟨#[]⟩)), .d (.v (.bool false)), .d (.v (.string ⟨#[]⟩)), .d (.v (.string ⟨#[]⟩)), .d (.v (.bool false)), .d (.v (.string ⟨#[]⟩)), .d (.v (.string ⟨#[]⟩)), .d (.v (.bool false)), .d (.v (.string ⟨#[]⟩)), .d (.v (.string ⟨#[]⟩)), .d (.v (.bool false)), .d (.v (.string ⟨#[]⟩)), .d (.v (.string ⟨#[]⟩)), .d (.v (.bool false)), .d (.v (.string ⟨#[]⟩)), .d (.v (.string ⟨#[]⟩)), .d (.v (.bool false)), .d (.v (.string ⟨#[]⟩)), .d (.v (.string ⟨#[]⟩)), .d (.v (.bool false)), .d (.v (.string ⟨#[]⟩)), .d (.v (.string ⟨#[]⟩))], [(0, 6), (6, 6), (12, 6), (18, 6)], none, false, [41, 41, 41, 41], none⟩),
   (163, ⟨24, 320, true, [.d (.v (.bool false)), .d (.v (.string ⟨#[]⟩)), .d (.v (.string ⟨#[]⟩)), .d (.v (.bool false)), .d (.v (.string ⟨#[]⟩)), .d (.v (.string ⟨#[]⟩)), .d (.v (.bool false)), .d (.v (.string ⟨#[]⟩)), .d (.v (.string ⟨#[]⟩)), .d (.v (.bool false)), .d (.v (.string ⟨#[]⟩)), .d (.v (.string ⟨#[]⟩)), .d (.v (.bool false)), .d (.v (.string ⟨#[]⟩)), .d (.v (.string ⟨#[]⟩)), .d (.v (.bool false)), .d (.v (.string ⟨#[]⟩)), .d (.v (.string ⟨#[]⟩)), .d (.v (.bool false)), .d (.v (.string ⟨#[]⟩)), .d (.v (.string ⟨#[]⟩)), .d (.v (.bool false)), .d (.v (.string ⟨#[]⟩)), .d (.v (.string ⟨#[]⟩))], [(0, 6), (6, 6), (12, 6), (18, 6)], none, false, [41, 41, 41, 41], none⟩),
   (169, ⟨24, 448, true, [.d (.v (.bool false)), .d (.v (.slice none 0 0)), .d (.v (.slice none 0 0)), .d (.v (.bool false)), .d (.v (.slice none 0 0)), .d (.v (.slice none 0 0)), .d (.v (.bool false)), .d (.v (.slice none 0 0)), .d (.v (.slice none 0 0)), .d (.v (.bool false)), .d (.v (.slice none 0 0)), .d (.v (.slice none 0 0)), .d (.v (.bool false)), .d (.v (.slice none 0 0)), .d (.v (.slice none 0 0)), .d (.v (.bool false)), .d (.v (.slice none 0 0)), .d (.v (.slice none 0 0)), .d (.v (.bool false)), .d (.v (.slice none 0 0)), .d (.v (.slice none 0 0)), .d (.v (.bool false)), .d (.v (.slice none 0 0)), .d (.v (.slice none 0 0))], [(0, 6), (6, 6), (12, 6), (18, 6)], none, false, [53, 53, 53, 53], none⟩),
   (170, ⟨24, 448, true, [.d (.v (.bool false)), .d (.v (.slice none 0 0)), .d (.v (.slice none 0 0)), .d (.v (.bool false)), .d (.v (.slice none 0 0)), .d (.v (.slice none 0 0)), .d (.v (.bool false)), .d (.v (.slice none 0 0)), .d (.v (.slice none 0 0)), .d (.v (.bool false)), .d (.v (.slice none 0 0)), .d (.v (.slice none 0 0)), .d (.v (.bool false)), .d (.v (.slice none 0 0)), .d (.v (.slice none 0 0)), .d (.v (.bool false)), .d (.v (.slice none 0 0)), .d (.v (.slice none 0 0)), .d (.v (.bool false)), .d (.v (.slice none 0 0)), .d (.v (.slice none 0 0)), .d (.v (.bool false)), .d (.v (.slice none 0 0)), .d (.v (.slice none 0 0))], [(0, 6), (6, 6), (12, 6), (18, 6)], none, false, [53, 53, 53, 53], none⟩),
   (201, ⟨12, 224, true, [.d (.v (.bool false)), .d (.v (.slice none 0 0)), .d (.v (.slice none 0 0)), .d (.v (.bool false)), .d (.v (.slice none 0 0)), .d (.v (.slice none 0 0)), .d (.v (.bool false)), .d (.v (.slice none 0 0)), .d (.v (.slice none 0 0)), .d (.v (.bool false)), .d (.v (.slice none 0 0)), .d (.v (.slice none 0 0))], [(0, 3), (3, 3), (6, 3), (9, 3)], none, false, [51, 51, 51, 51], none⟩),
   (202, ⟨12, 224, true, [.d (.v (.bool false)), .d (.v (.slice none 0 0)), .d (.v (.slice none 0 0)), .d (.v (.bool false)), .d (.v (.slice none 0 0)), .d (.v (.slice none 0 0)), .d (.v (.bool false)), .d (.v (.slice none 0 0)), .d (.v (.slice none 0 0)), .d (.v (.bool false)), .d (.v (.slice none 0 0)), .d (.v (.slice none 0 0))], [(0, 3), (3, 3), (6, 3), (9, 3)], none, false, [51, 51, 51, 51], none⟩),
   (212, ⟨16, 224, true, [.d (.v (.bool false)), .d (.v (.string ⟨#[]⟩)), .d (.v (.string ⟨#[]⟩)), .d (.v (.bool false)), .d (.v (.string ⟨#[]⟩)), .d (.v (.string ⟨#[]⟩)), .d (.v (.bool false)), .d (.v (.string ⟨#[]⟩)), .d (.v (.string ⟨#[]⟩)), .d (.v (.bool false)), .d (.v (.string ⟨#[]⟩)), .d (.v (.string ⟨#[]⟩)), .d (.v (.bool false)), .d (.v (.string ⟨#[]⟩)), .d (.v (.string ⟨#[]⟩)), .d (.v (.slice none 0 0))], [(0, 16)], none, false, [127], none⟩),
   (213, ⟨16, 224, true, [.d (.v (.bool false)), .d (.v (.string ⟨#[]⟩)), .d (.v (.string ⟨#[]⟩)), .d (.v (.bool false)), .d (.v (.string ⟨#[]⟩)), .d (.v (.string ⟨#[]⟩)), .d (.v (.bool false)), .d (.v (.string ⟨#[]⟩)), .d (.v (.string ⟨#[]⟩)), .d (.v (.bool false)), .d (.v (.string ⟨#[]⟩)), .d (.v (.string ⟨#[]⟩)), .d (.v (.bool false)), .d (.v (.string ⟨#[]⟩)), .d (.v (.string ⟨#[]⟩)), .d (.v (.slice none 0 0))], [(0, 16)], none, false, [127], none⟩),
   (214, ⟨1, 8, false, [.d (.v (.int .u64 (0)))], [], none, false, [], none⟩),
   (217, ⟨1, 4, false, [.d (.v (.int .u32 (0)))], [], none, false, [], none⟩),
   (218, ⟨1, 8, false, [.d (.v (.int .u64 (0)))], [], none, false, [], none⟩),
   (315, ⟨8, 8, true, [.d (.v (.int .u8 (0))), .d (.v (.int .u8 (0))), .d (.v (.int .u8 (0))), .d (.v (.int .u8 (0))), .d (.v (.int .u8 (0))), .d (.v (.int .u8 (0))), .d (.v (.int .u8 (0))), .d (.v (.int .u8 (0)))], [], none, false, [], some (8, 5)⟩)]
def TB6 : List (Nat × Ty) :=
  [(334, ⟨2, 2, true, [.d (.v (.int .u8 (0))), .d (.v (.int .u8 (0)))], [(0, 1), (1, 1)], none, false, [5, 5], none⟩),
   (335, ⟨2, 2, true, [.d (.v (.int .u8 (0))), .d (.v (.int .u8 (0)))], [(0, 1), (1, 1)], none, false, [5, 5], none⟩)]
def TBall (P : Program) : List (Nat × Ty) → Prop
  | [] => True
  | e :: r => tyOf P e.1 = some e.2 ∧ TBall P r
set_option maxRecDepth 100000 in
theorem tb0_ok : TBall Tryz.prog TB0 :=
  ⟨by kernel_rfl, by kernel_rfl, by kernel_rfl, by kernel_rfl, by kernel_rfl, by kernel_rfl, by kernel_rfl, by kernel_rfl, by kernel_rfl, by kernel_rfl, by kernel_rfl, by kernel_rfl, trivial⟩
set_option maxRecDepth 100000 in
theorem tb1_ok : TBall Tryz.prog TB1 :=
  ⟨by kernel_rfl, by kernel_rfl, by kernel_rfl, by kernel_rfl, by kernel_rfl, by kernel_rfl, by kernel_rfl, by kernel_rfl, by kernel_rfl, by kernel_rfl, by kernel_rfl, by kernel_rfl, trivial⟩
set_option maxRecDepth 100000 in
theorem tb2_ok : TBall Tryz.prog TB2 :=
  ⟨by kernel_rfl, by kernel_rfl, by kernel_rfl, by kernel_rfl, by kernel_rfl, by kernel_rfl, by kernel_rfl, by kernel_rfl, by kernel_rfl, by kernel_rfl, by kernel_rfl, by kernel_rfl, trivial⟩
set_option maxRecDepth 100000 in
theorem tb3_ok : TBall Tryz.prog TB3 :=
  ⟨by kernel_rfl, by kernel_rfl, by kernel_rfl, by kernel_rfl, by kernel_rfl, by kernel_rfl, by kernel_rfl, by kernel_rfl, by kernel_rfl, by kernel_rfl, by kernel_rfl, by kernel_rfl, trivial⟩
set_option maxRecDepth 100000 in
theorem tb4_ok : TBall Tryz.prog TB4 :=
  ⟨by kernel_rfl, by kernel_rfl, by kernel_rfl, by kernel_rfl, by kernel_rfl, by kernel_rfl, by kernel_rfl, by kernel_rfl, by kernel_rfl, by kernel_rfl, by kernel_rfl, by kernel_rfl, trivial⟩
set_option maxRecDepth 100000 in
theorem tb5_ok : TBall Tryz.prog TB5 :=
  ⟨by kernel_rfl, by kernel_rfl, by kernel_rfl, by kernel_rfl, by kernel_rfl, by kernel_rfl, by kernel_rfl, by kernel_rfl, by kernel_rfl, by kernel_rfl, by kernel_rfl, by kernel_rfl, trivial⟩
set_option maxRecDepth 100000 in
theorem tb6_ok : TBall Tryz.prog TB6 :=
  ⟨by kernel_rfl, by kernel_rfl, trivial⟩
def TB : List (Nat × Ty) := [(23, ⟨3, 40, true, [.d (.v (.bool false)), .d (.v (.string ⟨#[]⟩)), .d (.v (.string ⟨#[]⟩))], [(0, 1), (1, 1), (2, 1)], none, false, [4, 9, 9], none⟩),
   (25, ⟨6, 80, true, [.d (.v (.bool false)), .d (.v (.string ⟨#[]⟩)), .d (.v (.string ⟨#[]⟩)), .d (.v (.bool false)), .d (.v (.string ⟨#[]⟩)), .d (.v (.string ⟨#[]⟩))], [(0, 3), (3, 3)], none, false, [23, 23], none⟩),
   (27, ⟨4, 48, true, [.d (.v (.bool false)), .d (.v (.bool false)), .d (.v (.string ⟨#[]⟩)), .d (.v (.string ⟨#[]⟩))], [(0, 1), (1, 3)], none, false, [4, 23], none⟩),
   (29, ⟨10, 128, true, [.d (.v (.bool false)), .d (.v (.string ⟨#[]⟩)), .d (.v (.string ⟨#[]⟩)), .d (.v (.bool false)), .d (.v (.string ⟨#[]⟩)), .d (.v (.string ⟨#[]⟩)), .d (.v (.bool false)), .d (.v (.bool false)), .d (.v (.string ⟨#[]⟩)), .d (.v (.string ⟨#[]⟩))], [(0, 6), (6, 4)], none, false, [25, 27], none⟩),
   (32, ⟨12, 168, true, [.d (.v (.string ⟨#[]⟩)), .d (.v (.bool false)), .d (.v (.string ⟨#[]⟩)), .d (.v (.string ⟨#[]⟩)), .d (.v (.bool false)), .d (.v (.string ⟨#[]⟩)), .d (.v (.string ⟨#[]⟩)), .d (.v (.bool false)), .d (.v (.bool false)), .d (.v (.string ⟨#[]⟩)), .d (.v (.string ⟨#[]⟩)), .d (.v (.slice none 0 0))], [(0, 1), (1, 10), (11, 1)], none, false, [9, 29, 30], none⟩),
   (35, ⟨1, 8, false, [.d (.v (.int .i64 (0)))], [], none, false, [], none⟩),
   (41, ⟨6, 80, true, [.d (.v (.bool false)), .d (.v (.string ⟨#[]⟩)), .d (.v (.string ⟨#[]⟩)), .d (.v (.bool false)), .d (.v (.string ⟨#[]⟩)), .d (.v (.string ⟨#[]⟩))], [(0, 3), (3, 3)], none, false, [23, 23], none⟩),
   (43, ⟨12, 160, true, [.d (.v (.bool false)), .d (.v (.string ⟨#[]⟩)), .d (.v (.string ⟨#[]⟩)), .d (.v (.bool false)), .d (.v (.string ⟨#[]⟩)), .d (.v (.string ⟨#[]⟩)), .d (.v (.bool false)), .d (.v (.string ⟨#[]⟩)), .d (.v (.string ⟨#[]⟩)), .d (.v (.bool false)), .d (.v (.string ⟨#[]⟩)), .d (.v (.string ⟨#[]⟩))], [(0, 6), (6, 6)], none, false, [25, 25], none⟩),
   (82, ⟨1, 24, false, [.d (.v (.slice none 0 0))], [], some 86, false, [], none⟩),
   (86, ⟨2, 32, true, [.d (.v (.int .i64 (0))), .d (.v (.slice none 0 0))], [(0, 1), (1, 1)], none, false, [3, 59], none⟩),
   (127, ⟨16, 224, true, [.d (.v (.bool false)), .d (.v (.string ⟨#[]⟩)), .d (.v (.string ⟨#[]⟩)), .d (.v (.bool false)), .d (.v (.string ⟨#[]⟩)), .d (.v (.string ⟨#[]⟩)), .d (.v (.bool false)), .d (.v (.string ⟨#[]⟩)), .d (.v (.string ⟨#[]⟩)), .d (.v (.bool false)), .d (.v (.string ⟨#[]⟩)), .d (.v (.string ⟨#[]⟩)), .d (.v (.bool false)), .d (.v (.string ⟨#[]⟩)), .d (.v (.string ⟨#[]⟩)), .d (.v (.slice none 0 0))], [(0, 3), (3, 3), (6, 3), (9, 3), (12, 3), (15, 1)], none, false, [23, 23, 23, 23, 23, 100], none⟩),
   (30, ⟨1, 24, false, [.d (.v (.slice none 0 0))], [], some 127, false, [], none⟩), (33, ⟨1, 24, false, [.d (.v (.slice none 0 0))], [], some 41, false, [], none⟩),
   (34, ⟨1, 24, false, [.d (.v (.slice none 0 0))], [], some 43, false, [], none⟩),
   (47, ⟨1, 24, false, [.d (.v (.slice none 0 0))], [], some 54, false, [], none⟩),
   (48, ⟨1, 24, false, [.d (.v (.slice none 0 0))], [], some 217, false, [], none⟩),
   (59, ⟨1, 24, false, [.d (.v (.slice none 0 0))], [], some 23, false, [], none⟩),
   (60, ⟨1, 24, false, [.d (.v (.slice none 0 0))], [], some 100, false, [], none⟩),
   (66, ⟨1, 24, false, [.d (.v (.slice none 0 0))], [], some 59, false, [], none⟩),
   (81, ⟨1, 24, false, [.d (.v (.slice none 0 0))], [], some 86, false, [], none⟩),
   (100, ⟨1, 24, false, [.d (.v (.slice none 0 0))], [], some 25, false, [], none⟩),
   (104, ⟨1, 24, false, [.d (.v (.slice none 0 0))], [], some 107, false, [], none⟩),
   (107, ⟨1, 24, false, [.d (.v (.slice none 0 0))], [], some 111, false, [], none⟩),
   (120, ⟨1, 24, false, [.d (.v (.slice none 0 0))], [], some 131, false, [], none⟩), (157, ⟨1, 24, false, [.d (.v (.slice none 0 0))], [], some 163, false, [], none⟩),
   (166, ⟨1, 24, false, [.d (.v (.slice none 0 0))], [], some 3, false, [], none⟩),
   (167, ⟨1, 24, false, [.d (.v (.slice none 0 0))], [], some 170, false, [], none⟩),
   (174, ⟨1, 24, false, [.d (.v (.slice none 0 0))], [], some 33, false, [], none⟩),
   (190, ⟨1, 24, false, [.d (.v (.slice none 0 0))], [], some 82, false, [], none⟩),
   (192, ⟨1, 24, false, [.d (.v (.slice none 0 0))], [], some 51, false, [], none⟩),
   (195, ⟨1, 24, false, [.d (.v (.slice none 0 0))], [], some 29, false, [], none⟩),
   (199, ⟨1, 24, false, [.d (.v (.slice none 0 0))], [], some 202, false, [], none⟩),
   (233, ⟨1, 24, false, [.d (.v (.slice none 0 0))], [], some 5, false, [], none⟩),
   (327, ⟨1, 24, false, [.d (.v (.slice none 0 0))], [], some 214, false, [], none⟩),
   (2, ⟨1, 8, false, [.d (.v (.int .i64 (0)))], [], none, false, [], none⟩),
   (3, ⟨1, 8, false, [.d (.v (.int .i64 (0)))], [], none, false, [], none⟩), (4, ⟨1, 1, false, [.d (.v (.bool false))], [], none, false, [], none⟩),
   (5, ⟨1, 1, false, [.d (.v (.int .u8 (0)))], [], none, false, [], none⟩),
   (7, ⟨4, 24, true, [.d (.v (.int .i64 (0))), .d (.v (.int .i64 (0))), .d (.v (.bool false)), .d (.v (.int .u8 (0)))], [(0, 1), (1, 1), (2, 1), (3, 1)], none, false, [2, 3, 4, 6], none⟩),
   (9, ⟨1, 16, false, [.d (.v (.string ⟨#[]⟩))], [], none, true, [], none⟩),
   (12, ⟨1, 8, false, [.d (.v (.int .u64 (0)))], [], none, false, [], none⟩),
   (13, ⟨2, 24, true, [.d (.v (.string ⟨#[]⟩)), .d (.v (.int .u64 (0)))], [(0, 1), (1, 1)], none, false, [9, 12], none⟩),
   (21, ⟨1, 4, false, [.d (.v (.int .i32 (0)))], [], none, false, [], none⟩),
   (22, ⟨3, 40, true, [.d (.v (.bool false)), .d (.v (.string ⟨#[]⟩)), .d (.v (.string ⟨#[]⟩))], [(0, 1), (1, 1), (2, 1)], none, false, [4, 9, 9], none⟩),
   (24, ⟨6, 80, true, [.d (.v (.bool false)), .d (.v (.string ⟨#[]⟩)), .d (.v (.string ⟨#[]⟩)), .d (.v (.bool false)), .d (.v (.string ⟨#[]⟩)), .d (.v (.string ⟨#[]⟩))], [(0, 3), (3, 3)], none, false, [23, 23], none⟩),
   (26, ⟨4, 48, true, [.d (.v (.bool false)), .d (.v (.bool false)), .d (.v (.string ⟨#[]⟩)), .d (.v (.string ⟨#[]⟩))], [(0, 1), (1, 3)], none, false, [4, 23], none⟩),
   (28, ⟨10, 128, true, [.d (.v (.bool false)), .d (.v (.string ⟨#[]⟩)), .d (.v (.string ⟨#[]⟩)), .d (.v (.bool false)), .d (.v (.string ⟨#[]⟩)), .d (.v (.string ⟨#[]⟩)), .d (.v (.bool false)), .d (.v (.bool false)), .d (.v (.string ⟨#[]⟩)), .d (.v (.string ⟨#[]⟩))], [(0, 6), (6, 4)], none, false, [25, 27], none⟩),
   (31, ⟨12, 168, true, [.d (.v (.string ⟨#[]⟩)), .d (.v (.bool false)), .d (.v (.string ⟨#[]⟩)), .d (.v (.string ⟨#[]⟩)), .d (.v (.bool false)), .d (.v (.string ⟨#[]⟩)), .d (.v (.string ⟨#[]⟩)), .d (.v (.bool false)), .d (.v (.bool false)), .d (.v (.string ⟨#[]⟩)), .d (.v (.string ⟨#[]⟩)), .d (.v (.slice none 0 0))], [(0, 1), (1, 10), (11, 1)], none, false, [9, 29, 30], none⟩), (40, ⟨6, 80, true, [.d (.v (.bool false)), .d (.v (.string ⟨#[]⟩)), .d (.v (.string ⟨#[]⟩)), .d (.v (.bool false)), .d (.v (.string ⟨#[]⟩)), .d (.v (.string ⟨#[]⟩))], [(0, 3), (3, 3)], none, false, [23, 23], none⟩),
   (42, ⟨12, 160, true, [.d (.v (.bool false)), .d (.v (.string ⟨#[]⟩)), .d (.v (.string ⟨#[]⟩)), .d (.v (.bool false)), .d (.v (.string ⟨#[]⟩)), .d (.v (.string ⟨#[]⟩)), .d (.v (.bool false)), .d (.v (.string ⟨#[]⟩)), .d (.v (.string ⟨#[]⟩)), .d (.v (.bool false)), .d (.v (.string ⟨#[]⟩)), .d (.v (.string ⟨#[]⟩))], [(0, 6), (6, 6)], none, false, [25, 25], none⟩),
   (49, ⟨1, 24, false, [.d (.v (.slice none 0 0))], [], some 217, false, [], none⟩),
   (50, ⟨3, 56, true, [.d (.v (.bool false)), .d (.v (.slice none 0 0)), .d (.v (.slice none 0 0))], [(0, 1), (1, 1), (2, 1)], none, false, [4, 49, 49], none⟩),
   (51, ⟨3, 56, true, [.d (.v (.bool false)), .d (.v (.slice none 0 0)), .d (.v (.slice none 0 0))], [(0, 1), (1, 1), (2, 1)], none, false, [4, 49, 49], none⟩),
   (52, ⟨6, 112, true, [.d (.v (.bool false)), .d (.v (.slice none 0 0)), .d (.v (.slice none 0 0)), .d (.v (.bool false)), .d (.v (.slice none 0 0)), .d (.v (.slice none 0 0))], [(0, 3), (3, 3)], none, false, [51, 51], none⟩),
   (53, ⟨6, 112, true, [.d (.v (.bool false)), .d (.v (.slice none 0 0)), .d (.v (.slice none 0 0)), .d (.v (.bool false)), .d (.v (.slice none 0 0)), .d (.v (.slice none 0 0))], [(0, 3), (3, 3)], none, false, [51, 51], none⟩),
   (54, ⟨12, 224, true, [.d (.v (.bool false)), .d (.v (.slice none 0 0)), .d (.v (.slice none 0 0)), .d (.v (.bool false)), .d (.v (.slice none 0 0)), .d (.v (.slice none 0 0)), .d (.v (.bool false)), .d (.v (.slice none 0 0)), .d (.v (.slice none 0 0)), .d (.v (.bool false)), .d (.v (.slice none 0 0)), .d (.v (.slice none 0 0))], [], none, false, [], some (2, 53)⟩),
   (85, ⟨2, 32, true, [.d (.v (.int .i64 (0))), .d (.v (.slice none 0 0))], [(0, 1), (1, 1)], none, false, [3, 59], none⟩),
   (110, ⟨6, 112, true, [.d (.v (.bool false)), .d (.v (.slice none 0 0)), .d (.v (.slice none 0 0)), .d (.v (.bool false)), .d (.v (.slice none 0 0)), .d (.v (.slice none 0 0))], [(0, 3), (3, 3)], none, false, [51, 51], none⟩),
   (111, ⟨6, 112, true, [.d (.v (.bool false)), .d (.v (.slice none 0 0)), .d (.v (.slice none 0 0)), .d (.v (.bool false)), .d (.v (.slice none 0 0)), .d (.v (.slice none 0 0))], [(0, 3), (3, 3)], none, false, [51, 51], none⟩),
   (126, ⟨16, 224, true, [.d (.v (.bool false)), .d (.v (.string ⟨#[]⟩)), .d (.v (.string ⟨#[]⟩)), .d (.v (.bool false)), .d (.v (.string ⟨#[]⟩)), .d (.v (.string ⟨#[]⟩)), .d (.v (.bool false)), .d (.v (.string ⟨#[]⟩)), .d (.v (.string ⟨#[]⟩)), .d (.v (.bool false)), .d (.v (.string ⟨#[]⟩)), .d (.v (.string ⟨#[]⟩)), .d (.v (.bool false)), .d (.v (.string ⟨#[]⟩)), .d (.v (.string ⟨#[]⟩)), .d (.v (.slice none 0 0))], [(0, 3), (3, 3), (6, 3), (9, 3), (12, 3), (15, 1)], none, false, [23, 23, 23, 23, 23, 100], none⟩), (162, ⟨24, 320, true, [.d (.v (.bool false)), .d (.v (.string ⟨#[]⟩)), .d (.v (.string ⟨#[]⟩)), .d (.v (.bool false)), .d (.v (.string ⟨#[]⟩)), .d (.v (.string ⟨#[]⟩)), .d (.v (.bool false)), .d (.v (.string ⟨#[]⟩)), .d (.v (.string ⟨#[]⟩)), .d (.v (.bool false)), .d (.v (.string ⟨#[]⟩)), .d (.v (.string ⟨#[]⟩)), .d (.v (.bool false)), .d (.v (.string ⟨#[]⟩)), .d (.v (.string ⟨#[]⟩)), .d (.v (.bool false)), .d (.v (.string ⟨#[]⟩)), .d (.v (.string ⟨#[]⟩)), .d (.v (.bool false)), .d (.v (.string ⟨#[]⟩)), .d (.v (.string ⟨#[]⟩)), .d (.v (.bool false)), .d (.v (.string ⟨#[]⟩)), .d (.v (.string ⟨#[]⟩))], [(0, 6), (6, 6), (12, 6), (18, 6)], none, false, [41, 41, 41, 41], none⟩),
   (163, ⟨24, 320, true, [.d (.v (.bool false)), .d (.v (.string ⟨#[]⟩)), .d (.v (.string ⟨#[]⟩)), .d (.v (.bool false)), .d (.v (.string ⟨#[]⟩)), .d (.v (.string ⟨#[]⟩)), .d (.v (.bool false)), .d (.v (.string ⟨#[]⟩)), .d (.v (.string ⟨#[]⟩)), .d (.v (.bool false)), .d (.v (.string ⟨#[]⟩)), .d (.v (.string ⟨#[]⟩)), .d (.v (.bool false)), .d (.v (.string ⟨#[]⟩)), .d (.v (.string ⟨#[]⟩)), .d (.v (.bool false)), .d (.v (.string ⟨#[]⟩)), .d (.v (.string ⟨#[]⟩)), .d (.v (.bool false)), .d (.v (.string ⟨#[]⟩)), .d (.v (.string ⟨#[]⟩)), .d (.v (.bool false)), .d (.v (.string ⟨#[]⟩)), .d (.v (.string ⟨#[]⟩))], [(0, 6), (6, 6), (12, 6), (18, 6)], none, false, [41, 41, 41, 41], none⟩),
   (169, ⟨24, 448, true, [.d (.v (.bool false)), .d (.v (.slice none 0 0)), .d (.v (.slice none 0 0)), .d (.v (.bool false)), .d (.v (.slice none 0 0)), .d (.v (.slice none 0 0)), .d (.v (.bool false)), .d (.v (.slice none 0 0)), .d (.v (.slice none 0 0)), .d (.v (.bool false)), .d (.v (.slice none 0 0)), .d (.v (.slice none 0 0)), .d (.v (.bool false)), .d (.v (.slice none 0 0)), .d (.v (.slice none 0 0)), .d (.v (.bool false)), .d (.v (.slice none 0 0)), .d (.v (.slice none 0 0)), .d (.v (.bool false)), .d (.v (.slice none 0 0)), .d (.v (.slice none 0 0)), .d (.v (.bool false)), .d (.v (.slice none 0 0)), .d (.v (.slice none 0 0))], [(0, 6), (6, 6), (12, 6), (18, 6)], none, false, [53, 53, 53, 53], none⟩),
   (170, ⟨24, 448, true, [.d (.v (.bool false)), .d (.v (.slice none 0 0)), .d (.v (.slice none 0 0)), .d (.v (.bool false)), .d (.v (.slice none 0 0)), .d (.v (.slice none 0 0)), .d (.v (.bool false)), .d (.v (.slice none 0 0)), .d (.v (.slice none 0 0)), .d (.v (.bool false)), .d (.v (.slice none 0 0)), .d (.v (.slice none 0 0)), .d (.v (.bool false)), .d (.v (.slice none 0 0)), .d (.v (.slice none 0 0)), .d (.v (.bool false)), .d (.v (.slice none 0 0)), .d (.v (.slice none 0 0)), .d (.v (.bool false)), .d (.v (.slice none 0 0)), .d (.v (.slice none 0 0)), .d (.v (.bool false)), .d (.v (.slice none 0 0)), .d (.v (.slice none 0 0))], [(0, 6), (6, 6), (12, 6), (18, 6)], none, false, [53, 53, 53, 53], none⟩),
   (201, ⟨12, 224, true, [.d (.v (.bool false)), .d (.v (.slice none 0 0)), .d (.v (.slice none 0 0)), .d (.v (.bool false)), .d (.v (.slice none 0 0)), .d (.v (.slice none 0 0)), .d (.v (.bool false)), .d (.v (.slice none 0 0)), .d (.v (.slice none 0 0)), .d (.v (.bool false)), .d (.v (.slice none 0 0)), .d (.v (.slice none 0 0))], [(0, 3), (3, 3), (6, 3), (9, 3)], none, false, [51, 51, 51, 51], none⟩),
   (202, ⟨12, 224, true, [.d (.v (.bool false)), .d (.v (.slice none 0 0)), .d (.v (.slice none 0 0)), .d (.v (.bool false)), .d (.v (.slice none 0 0)), .d (.v (.slice none 0 0)), .d (.v (.bool false)), .d (.v (.slice none 0 0)), .d (.v (.slice none 0 0)), .d (.v (.bool false)), .d (.v (.slice none 0 0)), .d (.v (.slice none 0 0))], [(0, 3), (3, 3), (6, 3), (9, 3)], none, false, [51, 51, 51, 51], none⟩),
   (212, ⟨16, 224, true, [.d (.v (.bool false)), .d (.v (.string ⟨#[]⟩)), .d (.v (.string ⟨#[]⟩)), .d (.v (.bool false)), .d (.v (.string ⟨#[]⟩)), .d (.v (.string ⟨#[]⟩)), .d (.v (.bool false)), .d (.v (.string ⟨#[]⟩)), .d (.v (.string ⟨#[]⟩)), .d (.v (.bool false)), .d (.v (.string ⟨#[]⟩)), .d (.v (.string ⟨#[]⟩)), .d (.v (.bool false)), .d (.v (.string ⟨#[]⟩)), .d (.v (.string ⟨#[]⟩)), .d (.v (.slice none 0 0))], [(0, 16)], none, false, [127], none⟩),
   (213, ⟨16, 224, true, [.d (.v (.bool false)), .d (.v (.string ⟨#[]⟩)), .d (.v (.string ⟨#[]⟩)), .d (.v (.bool false)), .d (.v (.string ⟨#[]⟩)), .d (.v (.string ⟨#[]⟩)), .d (.v (.bool false)), .d (.v (.string ⟨#[]⟩)), .d (.v (.string ⟨#[]⟩)), .d (.v (.bool false)), .d (.v (.string ⟨#[]⟩)), .d (.v (.string ⟨#[]⟩)), .d (.v (.bool false)), .d (.v (.string ⟨#[]⟩)), .d (.v (.string ⟨#[]⟩)), .d (.v (.slice none 0 0))], [(0, 16)], none, false, [127], none⟩),
   (214, ⟨1, 8, false, [.d (.v (.int .u64 (0)))], [], none, false, [], none⟩),
   (217, ⟨1, 4, false, [.d (.v (.int .u32 (0)))], [], none, false, [], none⟩),
   (218, ⟨1, 8, false, [.d (.v (.int .u64 (0)))], [], none, false, [], none⟩),
   (315, ⟨8, 8, true, [.d (.v (.int .u8 (0))), .d (.v (.int .u8 (0))), .d (.v (.int .u8 (0))), .d (.v (.int .u8 (0))), .d (.v (.int .u8 (0))), .d (.v (.int .u8 (0))), .d (.v (.int .u8 (0))), .d (.v (.int .u8 (0)))], [], none, false, [], some (8, 5)⟩), (334, ⟨2, 2, true, [.d (.v (.int .u8 (0))), .d (.v (.int .u8 (0)))], [(0, 1), (1, 1)], none, false, [5, 5], none⟩),
   (335, ⟨2, 2, true, [.d (.v (.int .u8 (0))), .d (.v (.int .u8 (0)))], [(0, 1), (1, 1)], none, false, [5, 5], none⟩)]
theorem TBall.mem {P : Program} {L : List (Nat × Ty)} (h : TBall P L) {e : Nat × Ty} (he : e ∈ L) : tyOf P e.1 = some e.2 := by
  induction L with
  | nil => simp at he
  | cons x r ih =>
    rcases List.mem_cons.1 he with rfl | he
    · exact h.1
    · exact ih h.2 he
set_option maxRecDepth 100000 in
theorem tb_eq : TB = TB0 ++ TB1 ++ TB2 ++ TB3 ++ TB4 ++ TB5 ++ TB6 := by kernel_rfl
theorem tb_ok : TBok Tryz.prog TB := by
  intro t ty h
  rw [tb_eq] at h
  simp only [List.mem_append] at h
  rcases h with (((((h | h) | h) | h) | h) | h) | h
  · exact TBall.mem (e := (t, ty)) tb0_ok h
  · exact TBall.mem (e := (t, ty)) tb1_ok h
  · exact TBall.mem (e := (t, ty)) tb2_ok h
  · exact TBall.mem (e := (t, ty)) tb3_ok h
  · exact TBall.mem (e := (t, ty)) tb4_ok h
  · exact TBall.mem (e := (t, ty)) tb5_ok h
  · exact TBall.mem (e := (t, ty)) tb6_ok h
def prmOf (P : Program) (nt : Nat) : Prm := ⟨P, Tab, TB, nt⟩
theorem mixed : Tryz.prog.follows .mixedOrders = true := by kernel_rfl
end Go.Proofs.YtpejadencgfnnaaGreatDoor.eng
