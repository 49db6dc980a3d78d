/- The engine at this program: the table of its types, and that it is the program's. Printed by wip/gen_tb.py. -/
import Derived.Test.YtncoimmjjfmhdaaGreatDoorEng
import Derived.Test.YtncoimmjjfmhdaaGreatDoorTab
import Derived.Test.YtncoimmjjfmhdaaGreatDoorSeg
namespace Go.Proofs.YtncoimmjjfmhdaaGreatDoor.eng
open Go.RowKit mem seg
def TB0 : List (Nat × Ty) :=
  [(24, ⟨3, 40,true,[.d (.v (.bool false)),.d (.v (.string ⟨#[]⟩)),.d (.v (.string ⟨#[]⟩))],[(0, 1),(1, 1),(2, 1)],none,false,[4, 9, 9],none⟩),
   (26, ⟨6, 80,true,[.d (.v (.bool false)),.d (.v (.string ⟨#[]⟩)),.d (.v (.string ⟨#[]⟩)),.d (.v (.bool false)),.d (.v (.string ⟨#[]⟩)),.d (.v (.string ⟨#[]⟩))],[(0, 3),(3, 3)],none,false,[24, 24],none⟩),
   (28, ⟨6, 80,true,[.d (.v (.bool false)),.d (.v (.string ⟨#[]⟩)),.d (.v (.string ⟨#[]⟩)),.d (.v (.bool false)),.d (.v (.string ⟨#[]⟩)),.d (.v (.string ⟨#[]⟩))],[(0, 3),(3, 3)],none,false,[24, 24],none⟩),
   (29, ⟨1, 8,false,[.d (.v (.int .i64 (0)))],[],none,false,[],none⟩),
   (36, ⟨12, 160,true,[.d (.v (.bool false)),.d (.v (.string ⟨#[]⟩)),.d (.v (.string ⟨#[]⟩)),.d (.v (.bool false)),.d (.v (.string ⟨#[]⟩)),.d (.v (.string ⟨#[]⟩)),.d (.v (.bool false)),.d (.v (.string ⟨#[]⟩)),.d (.v (.string ⟨#[]⟩)),.d (.v (.bool false)),.d (.v (.string ⟨#[]⟩)),.d (.v (.string ⟨#[]⟩))],[(0, 6),(6, 6)],none,false,[26, 26],none⟩),
   (51, ⟨4, 48,true,[.d (.v (.bool false)),.d (.v (.bool false)),.d (.v (.string ⟨#[]⟩)),.d (.v (.string ⟨#[]⟩))],[(0, 1),(1, 3)],none,false,[4, 24],none⟩),
   (53, ⟨10, 128,true,[.d (.v (.bool false)),.d (.v (.string ⟨#[]⟩)),.d (.v (.string ⟨#[]⟩)),.d (.v (.bool false)),.d (.v (.string ⟨#[]⟩)),.d (.v (.string ⟨#[]⟩)),.d (.v (.bool false)),.d (.v (.bool false)),.d (.v (.string ⟨#[]⟩)),.d (.v (.string ⟨#[]⟩))],[(0, 6),(6, 4)],none,false,[26, 51],none⟩),
   (56, ⟨12, 168,true,[.d (.v (.string ⟨#[]⟩)),.d (.v (.bool false)),.d (.v (.string ⟨#[]⟩)),.d (.v (.string ⟨#[]⟩)),.d (.v (.bool false)),.d (.v (.string ⟨#[]⟩)),.d (.v (.string ⟨#[]⟩)),.d (.v (.bool false)),.d (.v (.bool false)),.d (.v (.string ⟨#[]⟩)),.d (.v (.string ⟨#[]⟩)),.d (.v (.slice none 0 0))],[(0, 1),(1, 10),(11, 1)],none,false,[9, 53, 54],none⟩),
   (58, ⟨1, 24,false,[.d (.v (.slice none 0 0))],[],some 64,false,[],none⟩),
   (64, ⟨2, 32,true,[.d (.v (.int .i64 (0))),.d (.v (.slice none 0 0))],[(0, 1),(1, 1)],none,false,[3, 45],none⟩),
   (85, ⟨16, 224,true,[.d (.v (.bool false)),.d (.v (.string ⟨#[]⟩)),.d (.v (.string ⟨#[]⟩)),.d (.v (.bool false)),.d (.v (.string ⟨#[]⟩)),.d (.v (.string ⟨#[]⟩)),.d (.v (.bool false)),.d (.v (.string ⟨#[]⟩)),.d (.v (.string ⟨#[]⟩)),.d (.v (.bool false)),.d (.v (.string ⟨#[]⟩)),.d (.v (.string ⟨#[]⟩)),.d (.v (.bool false)),.d (.v (.string ⟨#[]⟩)),.d (.v (.string ⟨#[]⟩)),.d (.v (.slice none 0 0))],[(0, 3),(3, 3),(6, 3),(9, 3),(12, 3),(15, 1)],none,false,[24, 24, 24, 24, 24, 22],none⟩),
   (22, ⟨1, 24,false,[.d (.v (.slice none 0 0))],[],some 26,false,[],none⟩)]
def TB1 : List (Nat × Ty) :=
  [(45, ⟨1, 24,false,[.d (.v (.slice none 0 0))],[],some 24,false,[],none⟩),
   (54, ⟨1, 24,false,[.d (.v (.slice none 0 0))],[],some 85,false,[],none⟩),
   (57, ⟨1, 24,false,[.d (.v (.slice none 0 0))],[],some 64,false,[],none⟩),
   (82, ⟨1, 24,false,[.d (.v (.slice none 0 0))],[],some 45,false,[],none⟩),
   (89, ⟨1, 24,false,[.d (.v (.slice none 0 0))],[],some 3,false,[],none⟩),
   (91, ⟨1, 24,false,[.d (.v (.slice none 0 0))],[],some 97,false,[],none⟩),
   (94, ⟨1, 24,false,[.d (.v (.slice none 0 0))],[],some 128,false,[],none⟩),
   (157, ⟨1, 24,false,[.d (.v (.slice none 0 0))],[],some 5,false,[],none⟩),
   (176, ⟨1, 24,false,[.d (.v (.slice none 0 0))],[],some 125,false,[],none⟩),
   (198, ⟨1, 24,false,[.d (.v (.slice none 0 0))],[],some 201,false,[],none⟩),
   (2, ⟨1, 8,false,[.d (.v (.int .i64 (0)))],[],none,false,[],none⟩),
   (3, ⟨1, 8,false,[.d (.v (.int .i64 (0)))],[],none,false,[],none⟩)]
def TB2 : List (Nat × Ty) :=
  [(4, ⟨1, 1,false,[.d (.v (.bool false))],[],none,false,[],none⟩),
   (5, ⟨1, 1,false,[.d (.v (.int .u8 (0)))],[],none,false,[],none⟩),
   (7, ⟨4, 24,true,[.d (.v (.int .i64 (0))),.d (.v (.int .i64 (0))),.d (.v (.bool false)),.d (.v (.int .u8 (0)))],[(0, 1),(1, 1),(2, 1),(3, 1)],none,false,[2, 3, 4, 6],none⟩),
   (9, ⟨1, 16,false,[.d (.v (.string ⟨#[]⟩))],[],none,true,[],none⟩),
   (12, ⟨1, 8,false,[.d (.v (.int .u64 (0)))],[],none,false,[],none⟩),
   (13, ⟨2, 24,true,[.d (.v (.string ⟨#[]⟩)),.d (.v (.int .u64 (0)))],[(0, 1),(1, 1)],none,false,[9, 12],none⟩),
   (21, ⟨1, 4,false,[.d (.v (.int .i32 (0)))],[],none,false,[],none⟩),
   (23, ⟨3, 40,true,[.d (.v (.bool false)),.d (.v (.string ⟨#[]⟩)),.d (.v (.string ⟨#[]⟩))],[(0, 1),(1, 1),(2, 1)],none,false,[4, 9, 9],none⟩),
   (25, ⟨6, 80,true,[.d (.v (.bool false)),.d (.v (.string ⟨#[]⟩)),.d (.v (.string ⟨#[]⟩)),.d (.v (.bool false)),.d (.v (.string ⟨#[]⟩)),.d (.v (.string ⟨#[]⟩))],[(0, 3),(3, 3)],none,false,[24, 24],none⟩),
   (27, ⟨6, 80,true,[.d (.v (.bool false)),.d (.v (.string ⟨#[]⟩)),.d (.v (.string ⟨#[]⟩)),.d (.v (.bool false)),.d (.v (.string ⟨#[]⟩)),.d (.v (.string ⟨#[]⟩))],[(0, 3),(3, 3)],none,false,[24, 24],none⟩),
   (35, ⟨12, 160,true,[.d (.v (.bool false)),.d (.v (.string ⟨#[]⟩)),.d (.v (.string ⟨#[]⟩)),.d (.v (.bool false)),.d (.v (.string ⟨#[]⟩)),.d (.v (.string ⟨#[]⟩)),.d (.v (.bool false)),.d (.v (.string ⟨#[]⟩)),.d (.v (.string ⟨#[]⟩)),.d (.v (.bool false)),.d (.v (.string ⟨#[]⟩)),.d (.v (.string ⟨#[]⟩))],[(0, 6),(6, 6)],none,false,[26, 26],none⟩),
   (50, ⟨4, 48,true,[.d (.v (.bool false)),.d (.v (.bool false)),.d (.v (.string ⟨#[]⟩)),.d (.v (.string ⟨#[]⟩))],[(0, 1),(1, 3)],none,false,[4, 24],none⟩)]
def TB3 : List (Nat × Ty) :=
  [(52, ⟨10, 128,true,[.d (.v (.bool false)),.d (.v (.string ⟨#[]⟩)),.d (.v (.string ⟨#[]⟩)),.d (.v (.bool false)),.d (.v (.string ⟨#[]⟩)),.d (.v (.string ⟨#[]⟩)),.d (.v (.bool false)),.d (.v (.bool false)),.d (.v (.string ⟨#[]⟩)),.d (.v (.string ⟨#[]⟩))],[(0, 6),(6, 4)],none,false,[26, 51],none⟩),
   (55, ⟨12, 168,true,[.d (.v (.string ⟨#[]⟩)),.d (.v (.bool false)),.d (.v (.string ⟨#[]⟩)),.d (.v (.string ⟨#[]⟩)),.d (.v (.bool false)),.d (.v (.string ⟨#[]⟩)),.d (.v (.string ⟨#[]⟩)),.d (.v (.bool false)),.d (.v (.bool false)),.d (.v (.string ⟨#[]⟩)),.d (.v (.string ⟨#[]⟩)),.d (.v (.slice none 0 0))],[(0, 1),(1, 10),(11, 1)],none,false,[9, 53, 54],none⟩),
   (63, ⟨2, 32,true,[.d (.v (.int .i64 (0))),.d (.v (.slice none 0 0))],[(0, 1),(1, 1)],none,false,[3, 45],none⟩),
   (84, ⟨16, 224,true,[.d (.v (.bool false)),.d (.v (.string ⟨#[]⟩)),.d (.v (.string ⟨#[]⟩)),.d (.v (.bool false)),.d (.v (.string ⟨#[]⟩)),.d (.v (.string ⟨#[]⟩)),.d (.v (.bool false)),.d (.v (.string ⟨#[]⟩)),.d (.v (.string ⟨#[]⟩)),.d (.v (.bool false)),.d (.v (.string ⟨#[]⟩)),.d (.v (.string ⟨#[]⟩)),.d (.v (.bool false)),.d (.v (.string ⟨#[]⟩)),.d (.v (.string ⟨#[]⟩)),.d (.v (.slice none 0 0))],[(0, 3),(3, 3),(6, 3),(9, 3),(12, 3),(15, 1)],none,false,[24, 24, 24, 24, 24, 22],none⟩),
   (95, ⟨1, 24,false,[.d (.v (.slice none 0 0))],[],some 128,false,[],none⟩),
   (96, ⟨3, 56,true,[.d (.v (.bool false)),.d (.v (.slice none 0 0)),.d (.v (.slice none 0 0))],[(0, 1),(1, 1),(2, 1)],none,false,[4, 95, 95],none⟩),
   (97, ⟨3, 56,true,[.d (.v (.bool false)),.d (.v (.slice none 0 0)),.d (.v (.slice none 0 0))],[(0, 1),(1, 1),(2, 1)],none,false,[4, 95, 95],none⟩),
   (125, ⟨1, 8,false,[.d (.v (.int .u64 (0)))],[],none,false,[],none⟩),
   (128, ⟨1, 4,false,[.d (.v (.int .u32 (0)))],[],none,false,[],none⟩),
   (129, ⟨1, 8,false,[.d (.v (.int .u64 (0)))],[],none,false,[],none⟩),
   (136, ⟨6, 112,true,[.d (.v (.bool false)),.d (.v (.slice none 0 0)),.d (.v (.slice none 0 0)),.d (.v (.bool false)),.d (.v (.slice none 0 0)),.d (.v (.slice none 0 0))],[(0, 3),(3, 3)],none,false,[97, 97],none⟩),
   (137, ⟨6, 112,true,[.d (.v (.bool false)),.d (.v (.slice none 0 0)),.d (.v (.slice none 0 0)),.d (.v (.bool false)),.d (.v (.slice none 0 0)),.d (.v (.slice none 0 0))],[(0, 3),(3, 3)],none,false,[97, 97],none⟩)]
def TB4 : List (Nat × Ty) :=
  [(156, ⟨8, 8,true,[.d (.v (.int .u8 (0))),.d (.v (.int .u8 (0))),.d (.v (.int .u8 (0))),.d (.v (.int .u8 (0))),.d (.v (.int .u8 (0))),.d (.v (.int .u8 (0))),.d (.v (.int .u8 (0))),.d (.v (.int .u8 (0)))],[],none,false,[],some (8, 5)⟩),
   (166, ⟨1, 8,false,[.d (.v (.int .i64 (0)))],[],none,false,[],none⟩),
   (189, ⟨1, 8,false,[.d (.v (.int .u64 (0)))],[],none,false,[],none⟩),
   (200, ⟨6, 112,true,[.d (.v (.bool false)),.d (.v (.slice none 0 0)),.d (.v (.slice none 0 0)),.d (.v (.bool false)),.d (.v (.slice none 0 0)),.d (.v (.slice none 0 0))],[(0, 3),(3, 3)],none,false,[97, 97],none⟩),
   (201, ⟨6, 112,true,[.d (.v (.bool false)),.d (.v (.slice none 0 0)),.d (.v (.slice none 0 0)),.d (.v (.bool false)),.d (.v (.slice none 0 0)),.d (.v (.slice none 0 0))],[(0, 3),(3, 3)],none,false,[97, 97],none⟩),
   (222, ⟨2, 2,true,[.d (.v (.int .u8 (0))),.d (.v (.int .u8 (0)))],[(0, 1),(1, 1)],none,false,[5, 5],none⟩),
   (223, ⟨2, 2,true,[.d (.v (.int .u8 (0))),.d (.v (.int .u8 (0)))],[(0, 1),(1, 1)],none,false,[5, 5],none⟩)]
def TBall (P : Program) : List (Nat × Ty) → Prop
  | [] => True
  | e :: r => tyOf P e.1 = some e.2 ∧ TBall P r
set_option maxRecDepth 100000 in
theorem Zoi : TBall Tryz.prog TB0 :=
  ⟨by kernel_rfl, by kernel_rfl, by kernel_rfl, by kernel_rfl, by kernel_rfl, by kernel_rfl, by kernel_rfl, by kernel_rfl, by kernel_rfl, by kernel_rfl, by kernel_rfl, by kernel_rfl, trivial⟩
set_option maxRecDepth 100000 in
theorem Zoh : TBall Tryz.prog TB1 :=
  ⟨by kernel_rfl, by kernel_rfl, by kernel_rfl, by kernel_rfl, by kernel_rfl, by kernel_rfl, by kernel_rfl, by kernel_rfl, by kernel_rfl, by kernel_rfl, by kernel_rfl, by kernel_rfl, trivial⟩
set_option maxRecDepth 100000 in
theorem Zog : TBall Tryz.prog TB2 :=
  ⟨by kernel_rfl, by kernel_rfl, by kernel_rfl, by kernel_rfl, by kernel_rfl, by kernel_rfl, by kernel_rfl, by kernel_rfl, by kernel_rfl, by kernel_rfl, by kernel_rfl, by kernel_rfl, trivial⟩
set_option maxRecDepth 100000 in
theorem Zof : TBall Tryz.prog TB3 :=
  ⟨by kernel_rfl, by kernel_rfl, by kernel_rfl, by kernel_rfl, by kernel_rfl, by kernel_rfl, by kernel_rfl, by kernel_rfl, by kernel_rfl, by kernel_rfl, by kernel_rfl, by kernel_rfl, trivial⟩
set_option maxRecDepth 100000 in
theorem Zoe : TBall Tryz.prog TB4 :=
  ⟨by kernel_rfl, by kernel_rfl, by kernel_rfl, by kernel_rfl, by kernel_rfl, by kernel_rfl, by kernel_rfl, trivial⟩
def TB : List (Nat × Ty) := [(24, ⟨3, 40,true,[.d (.v (.bool false)),.d (.v (.string ⟨#[]⟩)),.d (.v (.string ⟨#[]⟩))],[(0, 1),(1, 1),(2, 1)],none,false,[4, 9, 9],none⟩),
   (26, ⟨6, 80,true,[.d (.v (.bool false)),.d (.v (.string ⟨#[]⟩)),.d (.v (.string ⟨#[]⟩)),.d (.v (.bool false)),.d (.v (.string ⟨#[]⟩)),.d (.v (.string ⟨#[]⟩))],[(0, 3),(3, 3)],none,false,[24, 24],none⟩),
   (28, ⟨6, 80,true,[.d (.v (.bool false)),.d (.v (.string ⟨#[]⟩)),.d (.v (.string ⟨#[]⟩)),.d (.v (.bool false)),.d (.v (.string ⟨#[]⟩)),.d (.v (.string ⟨#[]⟩))],[(0, 3),(3, 3)],none,false,[24, 24],none⟩),
   (29, ⟨1, 8,false,[.d (.v (.int .i64 (0)))],[],none,false,[],none⟩),
   (36, ⟨12, 160,true,[.d (.v (.bool false)),.d (.v (.string ⟨#[]⟩)),.d (.v (.string ⟨#[]⟩)),.d (.v (.bool false)),.d (.v (.string ⟨#[]⟩)),.d (.v (.string ⟨#[]⟩)),.d (.v (.bool false)),.d (.v (.string ⟨#[]⟩)),.d (.v (.string ⟨#[]⟩)),.d (.v (.bool false)),.d (.v (.string ⟨#[]⟩)),.d (.v (.string ⟨#[]⟩))],[(0, 6),(6, 6)],none,false,[26, 26],none⟩),
   (51, ⟨4, 48,true,[.d (.v (.bool false)),.d (.v (.bool false)),.d (.v (.string ⟨#[]⟩)),.d (.v (.string ⟨#[]⟩))],[(0, 1),(1, 3)],none,false,[4, 24],none⟩),
   (53, ⟨10, 128,true,[.d (.v (.bool false)),.d (.v (.string ⟨#[]⟩)),.d (.v (.string ⟨#[]⟩)),.d (.v (.bool false)),.d (.v (.string ⟨#[]⟩)),.d (.v (.string ⟨#[]⟩)),.d (.v (.bool false)),.d (.v (.bool false)),.d (.v (.string ⟨#[]⟩)),.d (.v (.string ⟨#[]⟩))],[(0, 6),(6, 4)],none,false,[26, 51],none⟩),
   (56, ⟨12, 168,true,[.d (.v (.string ⟨#[]⟩)),.d (.v (.bool false)),.d (.v (.string ⟨#[]⟩)),.d (.v (.string ⟨#[]⟩)),.d (.v (.bool false)),.d (.v (.string ⟨#[]⟩)),.d (.v (.string ⟨#[]⟩)),.d (.v (.bool false)),.d (.v (.bool false)),.d (.v (.string ⟨#[]⟩)),.d (.v (.string ⟨#[]⟩)),.d (.v (.slice none 0 0))],[(0, 1),(1, 10),(11, 1)],none,false,[9, 53, 54],none⟩),
   (58, ⟨1, 24,false,[.d (.v (.slice none 0 0))],[],some 64,false,[],none⟩),
   (64, ⟨2, 32,true,[.d (.v (.int .i64 (0))),.d (.v (.slice none 0 0))],[(0, 1),(1, 1)],none,false,[3, 45],none⟩),
   (85, ⟨16, 224,true,[.d (.v (.bool false)),.d (.v (.string ⟨#[]⟩)),.d (.v (.string ⟨#[]⟩)),.d (.v (.bool false)),.d (.v (.string ⟨#[]⟩)),.d (.v (.string ⟨#[]⟩)),.d (.v (.bool false)),.d (.v (.string ⟨#[]⟩)),.d (.v (.string ⟨#[]⟩)),.d (.v (.bool false)),.d (.v (.string ⟨#[]⟩)),.d (.v (.string ⟨#[]⟩)),.d (.v (.bool false)),.d (.v (.string ⟨#[]⟩)),.d (.v (.string ⟨#[]⟩)),.d (.v (.slice none 0 0))],[(0, 3),(3, 3),(6, 3),(9, 3),(12, 3),(15, 1)],none,false,[24, 24, 24, 24, 24, 22],none⟩),
   (22, ⟨1, 24,false,[.d (.v (.slice none 0 0))],[],some 26,false,[],none⟩),(45, ⟨1, 24,false,[.d (.v (.slice none 0 0))],[],some 24,false,[],none⟩),
   (54, ⟨1, 24,false,[.d (.v (.slice none 0 0))],[],some 85,false,[],none⟩),
   (57, ⟨1, 24,false,[.d (.v (.slice none 0 0))],[],some 64,false,[],none⟩),
   (82, ⟨1, 24,false,[.d (.v (.slice none 0 0))],[],some 45,false,[],none⟩),
   (89, ⟨1, 24,false,[.d (.v (.slice none 0 0))],[],some 3,false,[],none⟩),
   (91, ⟨1, 24,false,[.d (.v (.slice none 0 0))],[],some 97,false,[],none⟩),
   (94, ⟨1, 24,false,[.d (.v (.slice none 0 0))],[],some 128,false,[],none⟩),
   (157, ⟨1, 24,false,[.d (.v (.slice none 0 0))],[],some 5,false,[],none⟩),
   (176, ⟨1, 24,false,[.d (.v (.slice none 0 0))],[],some 125,false,[],none⟩),
   (198, ⟨1, 24,false,[.d (.v (.slice none 0 0))],[],some 201,false,[],none⟩),
   (2, ⟨1, 8,false,[.d (.v (.int .i64 (0)))],[],none,false,[],none⟩),
   (3, ⟨1, 8,false,[.d (.v (.int .i64 (0)))],[],none,false,[],none⟩),(4, ⟨1, 1,false,[.d (.v (.bool false))],[],none,false,[],none⟩),
   (5, ⟨1, 1,false,[.d (.v (.int .u8 (0)))],[],none,false,[],none⟩),
   (7, ⟨4, 24,true,[.d (.v (.int .i64 (0))),.d (.v (.int .i64 (0))),.d (.v (.bool false)),.d (.v (.int .u8 (0)))],[(0, 1),(1, 1),(2, 1),(3, 1)],none,false,[2, 3, 4, 6],none⟩),
   (9, ⟨1, 16,false,[.d (.v (.string ⟨#[]⟩))],[],none,true,[],none⟩),
   (12, ⟨1, 8,false,[.d (.v (.int .u64 (0)))],[],none,false,[],none⟩),
   (13, ⟨2, 24,true,[.d (.v (.string ⟨#[]⟩)),.d (.v (.int .u64 (0)))],[(0, 1),(1, 1)],none,false,[9, 12],none⟩),
   (21, ⟨1, 4,false,[.d (.v (.int .i32 (0)))],[],none,false,[],none⟩),
   (23, ⟨3, 40,true,[.d (.v (.bool false)),.d (.v (.string ⟨#[]⟩)),.d (.v (.string ⟨#[]⟩))],[(0, 1),(1, 1),(2, 1)],none,false,[4, 9, 9],none⟩),
   (25, ⟨6, 80,true,[.d (.v (.bool false)),.d (.v (.string ⟨#[]⟩)),.d (.v (.string ⟨#[]⟩)),.d (.v (.bool false)),.d (.v (.string ⟨#[]⟩)),.d (.v (.string ⟨#[]⟩))],[(0, 3),(3, 3)],none,false,[24, 24],none⟩),
   (27, ⟨6, 80,true,[.d (.v (.bool false)),.d (.v (.string ⟨#[]⟩)),.d (.v (.string ⟨#[]⟩)),.d (.v (.bool false)),.d (.v (.string ⟨#[]⟩)),.d (.v (.string ⟨#[]⟩))],[(0, 3),(3, 3)],none,false,[24, 24],none⟩),
   (35, ⟨12, 160,true,[.d (.v (.bool false)),.d (.v (.string ⟨#[]⟩)),.d (.v (.string ⟨#[]⟩)),.d (.v (.bool false)),.d (.v (.string ⟨#[]⟩)),.d (.v (.string ⟨#[]⟩)),.d (.v (.bool false)),.d (.v (.string ⟨#[]⟩)),.d (.v (.string ⟨#[]⟩)),.d (.v (.bool false)),.d (.v (.string ⟨#[]⟩)),.d (.v (.string ⟨#[]⟩))],[(0, 6),(6, 6)],none,false,[26, 26],none⟩),
   (50, ⟨4, 48,true,[.d (.v (.bool false)),.d (.v (.bool false)),.d (.v (.string ⟨#[]⟩)),.d (.v (.string ⟨#[]⟩))],[(0, 1),(1, 3)],none,false,[4, 24],none⟩),(52, ⟨10, 128,true,[.d (.v (.bool false)),.d (.v (.string ⟨#[]⟩)),.d (.v (.string ⟨#[]⟩)),.d (.v (.bool false)),.d (.v (.string ⟨#[]⟩)),.d (.v (.string ⟨#[]⟩)),.d (.v (.bool false)),.d (.v (.bool false)),.d (.v (.string ⟨#[]⟩)),.d (.v (.string ⟨#[]⟩))],[(0, 6),(6, 4)],none,false,[26, 51],none⟩),
   (55, ⟨12, 168,true,[.d (.v (.string ⟨#[]⟩)),.d (.v (.bool false)),.d (.v (.string ⟨#[]⟩)),.d (.v (.string ⟨#[]⟩)),.d (.v (.bool false)),.d (.v (.string ⟨#[]⟩)),.d (.v (.string ⟨#[]⟩)),.d (.v (.bool false)),.d (.v (.bool false)),.d (.v (.string ⟨#[]⟩)),.d (.v (.string ⟨#[]⟩)),.d (.v (.slice none 0 0))],[(0, 1),(1, 10),(11, 1)],none,false,[9, 53, 54],none⟩),
   (63, ⟨2, 32,true,[.d (.v (.int .i64 (0))),.d (.v (.slice none 0 0))],[(0, 1),(1, 1)],none,false,[3, 45],none⟩),
   (84, ⟨16, 224,true,[.d (.v (.bool false)),.d (.v (.string ⟨#[]⟩)),.d (.v (.string ⟨#[]⟩)),.d (.v (.bool false)),.d (.v (.string ⟨#[]⟩)),.d (.v (.string ⟨#[]⟩)),.d (.v (.bool false)),.d (.v (.string ⟨#[]⟩)),.d (.v (.string ⟨#[]⟩)),.d (.v (.bool false)),.d (.v (.string ⟨#[]⟩)),.d (.v (.string ⟨#[]⟩)),.d (.v (.bool false)),.d (.v (.string ⟨#[]⟩)),.d (.v (.string ⟨#[]⟩)),.d (.v (.slice none 0 0))],[(0, 3),(3, 3),(6, 3),(9, 3),(12, 3),(15, 1)],none,false,[24, 24, 24, 24, 24, 22],none⟩),
   (95, ⟨1, 24,false,[.d (.v (.slice none 0 0))],[],some 128,false,[],none⟩),
   (96, ⟨3, 56,true,[.d (.v (.bool false)),.d (.v (.slice none 0 0)),.d (.v (.slice none 0 0))],[(0, 1),(1, 1),(2, 1)],none,false,[4, 95, 95],none⟩),
   (97, ⟨3, 56,true,[.d (.v (.bool false)),.d (.v (.slice none 0 0)),.d (.v (.slice none 0 0))],[(0, 1),(1, 1),(2, 1)],none,false,[4, 95, 95],none⟩),
   (125, ⟨1, 8,false,[.d (.v (.int .u64 (0)))],[],none,false,[],none⟩),
   (128, ⟨1, 4,false,[.d (.v (.int .u32 (0)))],[],none,false,[],none⟩),
   (129, ⟨1, 8,false,[.d (.v (.int .u64 (0)))],[],none,false,[],none⟩),
   (136, ⟨6, 112,true,[.d (.v (.bool false)),.d (.v (.slice none 0 0)),.d (.v (.slice none 0 0)),.d (.v (.bool false)),.d (.v (.slice none 0 0)),.d (.v (.slice none 0 0))],[(0, 3),(3, 3)],none,false,[97, 97],none⟩),
   (137, ⟨6, 112,true,[.d (.v (.bool false)),.d (.v (.slice none 0 0)),.d (.v (.slice none 0 0)),.d (.v (.bool false)),.d (.v (.slice none 0 0)),.d (.v (.slice none 0 0))],[(0, 3),(3, 3)],none,false,[97, 97],none⟩),(156, ⟨8, 8,true,[.d (.v (.int .u8 (0))),.d (.v (.int .u8 (0))),.d (.v (.int .u8 (0))),.d (.v (.int .u8 (0))),.d (.v (.int .u8 (0))),.d (.v (.int .u8 (0))),.d (.v (.int .u8 (0))),.d (.v (.int .u8 (0)))],[],none,false,[],some (8, 5)⟩),
   (166, ⟨1, 8,false,[.d (.v (.int .i64 (0)))],[],none,false,[],none⟩),
   (189, ⟨1, 8,false,[.d (.v (.int .u64 (0)))],[],none,false,[],none⟩),
   (200, ⟨6, 112,true,[.d (.v (.bool false)),.d (.v (.slice none 0 0)),.d (.v (.slice none 0 0)),.d (.v (.bool false)),.d (.v (.slice none 0 0)),.d (.v (.slice none 0 0))],[(0, 3),(3, 3)],none,false,[97, 97],none⟩),
   (201, ⟨6, 112,true,[.d (.v (.bool false)),.d (.v (.slice none 0 0)),.d (.v (.slice none 0 0)),.d (.v (.bool false)),.d (.v (.slice none 0 0)),.d (.v (.slice none 0 0))],[(0, 3),(3, 3)],none,false,[97, 97],none⟩),
   (222, ⟨2, 2,true,[.d (.v (.int .u8 (0))),.d (.v (.int .u8 (0)))],[(0, 1),(1, 1)],none,false,[5, 5],none⟩),
   (223, ⟨2, 2,true,[.d (.v (.int .u8 (0))),.d (.v (.int .u8 (0)))],[(0, 1),(1, 1)],none,false,[5, 5],none⟩)]
theorem TBall.mem {P : Program} {L : List (Nat × Ty)} (h : TBall P L) {e : Nat × Ty} (he : e ∈ L) : tyOf P e.1 = some e.2 := by
  induction L with
  | nil => simp at he
  | cons x r ih =>
    rcases List.mem_cons.1 he with rfl | he
    · exact h.1
    · exact ih h.2 he
set_option maxRecDepth 100000 in
theorem Zo5 : TB = TB0 ++ TB1 ++ TB2 ++ TB3 ++ TB4 := by kernel_rfl
theorem Zjj : TBok Tryz.prog TB := by
  intro t ty h
  rw [Zo5] at h
  simp only [List.mem_append] at h
  rcases h with (((h | h) | h) | h) | h
  · exact TBall.mem (e := (t, ty)) Zoi h
  · exact TBall.mem (e := (t, ty)) Zoh h
  · exact TBall.mem (e := (t, ty)) Zog h
  · exact TBall.mem (e := (t, ty)) Zof h
  · exact TBall.mem (e := (t, ty)) Zoe h
def prmOf (P : Program) (nt : Nat) : Prm := ⟨P, Tab, TB, ⟨nt,[],false⟩,[]⟩
def prmOwn (P : Program) (nt : Nat) (own : List Nat) : Prm := ⟨P, Tab, TB, ⟨nt,[],false⟩, own⟩
def prmL (P : Program) (nt i : Nat) (own : List Nat) : Prm := ⟨P, Tab, TB, ⟨nt,[i],false⟩, own⟩
theorem mixed : Tryz.prog.follows .mixedOrders = true := by kernel_rfl
end Go.Proofs.YtncoimmjjfmhdaaGreatDoor.eng
