/- The engine at this program: the table of its types, and that it is the program's. Printed by wip/gen_tb.py. -/
import Derived.Test.YtbgokkfhohodgaaGreatDoorEng
import Derived.Test.YtbgokkfhohodgaaGreatDoorTab
import Derived.Test.YtbgokkfhohodgaaGreatDoorSeg
namespace Go.Proofs.YtbgokkfhohodgaaGreatDoor.eng
open Go.RowKit mem seg
def TB0 : List (Nat × Ty) :=
  [(23, ⟨3, 40,true,[.d (.v (.bool false)),.d (.v (.string ⟨#[]⟩)),.d (.v (.string ⟨#[]⟩))],[(0, 1),(1, 1),(2, 1)],none,false,[4, 9, 9],none⟩),
   (25, ⟨6, 80,true,[.d (.v (.bool false)),.d (.v (.string ⟨#[]⟩)),.d (.v (.string ⟨#[]⟩)),.d (.v (.bool false)),.d (.v (.string ⟨#[]⟩)),.d (.v (.string ⟨#[]⟩))],[(0, 3),(3, 3)],none,false,[23, 23],none⟩),
   (27, ⟨4, 48,true,[.d (.v (.bool false)),.d (.v (.bool false)),.d (.v (.string ⟨#[]⟩)),.d (.v (.string ⟨#[]⟩))],[(0, 1),(1, 3)],none,false,[4, 23],none⟩),
   (29, ⟨10, 128,true,[.d (.v (.bool false)),.d (.v (.string ⟨#[]⟩)),.d (.v (.string ⟨#[]⟩)),.d (.v (.bool false)),.d (.v (.string ⟨#[]⟩)),.d (.v (.string ⟨#[]⟩)),.d (.v (.bool false)),.d (.v (.bool false)),.d (.v (.string ⟨#[]⟩)),.d (.v (.string ⟨#[]⟩))],[(0, 6),(6, 4)],none,false,[25, 27],none⟩),
   (32, ⟨12, 168,true,[.d (.v (.string ⟨#[]⟩)),.d (.v (.bool false)),.d (.v (.string ⟨#[]⟩)),.d (.v (.string ⟨#[]⟩)),.d (.v (.bool false)),.d (.v (.string ⟨#[]⟩)),.d (.v (.string ⟨#[]⟩)),.d (.v (.bool false)),.d (.v (.bool false)),.d (.v (.string ⟨#[]⟩)),.d (.v (.string ⟨#[]⟩)),.d (.v (.slice none 0 0))],[(0, 1),(1, 10),(11, 1)],none,false,[9, 29, 30],none⟩),
   (35, ⟨1, 24,false,[.d (.v (.slice none 0 0))],[],some 42,false,[],none⟩),
   (36, ⟨1, 8,false,[.d (.v (.int .i64 (0)))],[],none,false,[],none⟩),
   (42, ⟨2, 32,true,[.d (.v (.int .i64 (0))),.d (.v (.slice none 0 0))],[(0, 1),(1, 1)],none,false,[3, 33],none⟩),
   (55, ⟨6, 80,true,[.d (.v (.bool false)),.d (.v (.string ⟨#[]⟩)),.d (.v (.string ⟨#[]⟩)),.d (.v (.bool false)),.d (.v (.string ⟨#[]⟩)),.d (.v (.string ⟨#[]⟩))],[(0, 3),(3, 3)],none,false,[23, 23],none⟩),
   (71, ⟨12, 160,true,[.d (.v (.bool false)),.d (.v (.string ⟨#[]⟩)),.d (.v (.string ⟨#[]⟩)),.d (.v (.bool false)),.d (.v (.string ⟨#[]⟩)),.d (.v (.string ⟨#[]⟩)),.d (.v (.bool false)),.d (.v (.string ⟨#[]⟩)),.d (.v (.string ⟨#[]⟩)),.d (.v (.bool false)),.d (.v (.string ⟨#[]⟩)),.d (.v (.string ⟨#[]⟩))],[(0, 6),(6, 6)],none,false,[25, 25],none⟩),
   (86, ⟨16, 224,true,[.d (.v (.bool false)),.d (.v (.string ⟨#[]⟩)),.d (.v (.string ⟨#[]⟩)),.d (.v (.bool false)),.d (.v (.string ⟨#[]⟩)),.d (.v (.string ⟨#[]⟩)),.d (.v (.bool false)),.d (.v (.string ⟨#[]⟩)),.d (.v (.string ⟨#[]⟩)),.d (.v (.bool false)),.d (.v (.string ⟨#[]⟩)),.d (.v (.string ⟨#[]⟩)),.d (.v (.bool false)),.d (.v (.string ⟨#[]⟩)),.d (.v (.string ⟨#[]⟩)),.d (.v (.slice none 0 0))],[(0, 3),(3, 3),(6, 3),(9, 3),(12, 3),(15, 1)],none,false,[23, 23, 23, 23, 23, 66],none⟩),
   (30, ⟨1, 24,false,[.d (.v (.slice none 0 0))],[],some 86,false,[],none⟩)]
def TB1 : List (Nat × Ty) :=
  [(33, ⟨1, 24,false,[.d (.v (.slice none 0 0))],[],some 23,false,[],none⟩),
   (34, ⟨1, 24,false,[.d (.v (.slice none 0 0))],[],some 42,false,[],none⟩),
   (51, ⟨1, 24,false,[.d (.v (.slice none 0 0))],[],some 98,false,[],none⟩),
   (66, ⟨1, 24,false,[.d (.v (.slice none 0 0))],[],some 25,false,[],none⟩),
   (83, ⟨1, 24,false,[.d (.v (.slice none 0 0))],[],some 33,false,[],none⟩),
   (90, ⟨1, 24,false,[.d (.v (.slice none 0 0))],[],some 3,false,[],none⟩),
   (95, ⟨1, 24,false,[.d (.v (.slice none 0 0))],[],some 154,false,[],none⟩),
   (118, ⟨1, 24,false,[.d (.v (.slice none 0 0))],[],some 5,false,[],none⟩),
   (205, ⟨1, 24,false,[.d (.v (.slice none 0 0))],[],some 57,false,[],none⟩),
   (228, ⟨1, 24,false,[.d (.v (.slice none 0 0))],[],some 231,false,[],none⟩),
   (2, ⟨1, 8,false,[.d (.v (.int .i64 (0)))],[],none,false,[],none⟩),
   (3, ⟨1, 8,false,[.d (.v (.int .i64 (0)))],[],none,false,[],none⟩)]
def TB2 : List (Nat × Ty) :=
  [(4, ⟨1, 1,false,[.d (.v (.bool false))],[],none,false,[],none⟩),
   (5, ⟨1, 1,false,[.d (.v (.int .u8 (0)))],[],none,false,[],none⟩),
   (7, ⟨4, 24,true,[.d (.v (.int .i64 (0))),.d (.v (.int .i64 (0))),.d (.v (.bool false)),.d (.v (.int .u8 (0)))],[(0, 1),(1, 1),(2, 1),(3, 1)],none,false,[2, 3, 4, 6],none⟩),
   (9, ⟨1, 16,false,[.d (.v (.string ⟨#[]⟩))],[],none,true,[],none⟩),
   (12, ⟨1, 8,false,[.d (.v (.int .u64 (0)))],[],none,false,[],none⟩),
   (13, ⟨2, 24,true,[.d (.v (.string ⟨#[]⟩)),.d (.v (.int .u64 (0)))],[(0, 1),(1, 1)],none,false,[9, 12],none⟩),
   (21, ⟨1, 4,false,[.d (.v (.int .i32 (0)))],[],none,false,[],none⟩),
   (22, ⟨3, 40,true,[.d (.v (.bool false)),.d (.v (.string ⟨#[]⟩)),.d (.v (.string ⟨#[]⟩))],[(0, 1),(1, 1),(2, 1)],none,false,[4, 9, 9],none⟩),
   (24, ⟨6, 80,true,[.d (.v (.bool false)),.d (.v (.string ⟨#[]⟩)),.d (.v (.string ⟨#[]⟩)),.d (.v (.bool false)),.d (.v (.string ⟨#[]⟩)),.d (.v (.string ⟨#[]⟩))],[(0, 3),(3, 3)],none,false,[23, 23],none⟩),
   (26, ⟨4, 48,true,[.d (.v (.bool false)),.d (.v (.bool false)),.d (.v (.string ⟨#[]⟩)),.d (.v (.string ⟨#[]⟩))],[(0, 1),(1, 3)],none,false,[4, 23],none⟩),
   (28, ⟨10, 128,true,[.d (.v (.bool false)),.d (.v (.string ⟨#[]⟩)),.d (.v (.string ⟨#[]⟩)),.d (.v (.bool false)),.d (.v (.string ⟨#[]⟩)),.d (.v (.string ⟨#[]⟩)),.d (.v (.bool false)),.d (.v (.bool false)),.d (.v (.string ⟨#[]⟩)),.d (.v (.string ⟨#[]⟩))],[(0, 6),(6, 4)],none,false,[25, 27],none⟩),
   (31, ⟨12, 168,true,[.d (.v (.string ⟨#[]⟩)),.d (.v (.bool false)),.d (.v (.string ⟨#[]⟩)),.d (.v (.string ⟨#[]⟩)),.d (.v (.bool false)),.d (.v (.string ⟨#[]⟩)),.d (.v (.string ⟨#[]⟩)),.d (.v (.bool false)),.d (.v (.bool false)),.d (.v (.string ⟨#[]⟩)),.d (.v (.string ⟨#[]⟩)),.d (.v (.slice none 0 0))],[(0, 1),(1, 10),(11, 1)],none,false,[9, 29, 30],none⟩)]
def TB3 : List (Nat × Ty) :=
  [(41, ⟨2, 32,true,[.d (.v (.int .i64 (0))),.d (.v (.slice none 0 0))],[(0, 1),(1, 1)],none,false,[3, 33],none⟩),
   (47, ⟨1, 8,false,[.d (.v (.nilFunc))],[],none,false,[],none⟩),
   (54, ⟨6, 80,true,[.d (.v (.bool false)),.d (.v (.string ⟨#[]⟩)),.d (.v (.string ⟨#[]⟩)),.d (.v (.bool false)),.d (.v (.string ⟨#[]⟩)),.d (.v (.string ⟨#[]⟩))],[(0, 3),(3, 3)],none,false,[23, 23],none⟩),
   (57, ⟨1, 8,false,[.d (.v (.int .u64 (0)))],[],none,false,[],none⟩),
   (60, ⟨1, 8,false,[.d (.v (.nilFunc))],[],none,false,[],none⟩),
   (63, ⟨1, 8,false,[.d (.v (.int .u64 (0)))],[],none,false,[],none⟩),
   (70, ⟨12, 160,true,[.d (.v (.bool false)),.d (.v (.string ⟨#[]⟩)),.d (.v (.string ⟨#[]⟩)),.d (.v (.bool false)),.d (.v (.string ⟨#[]⟩)),.d (.v (.string ⟨#[]⟩)),.d (.v (.bool false)),.d (.v (.string ⟨#[]⟩)),.d (.v (.string ⟨#[]⟩)),.d (.v (.bool false)),.d (.v (.string ⟨#[]⟩)),.d (.v (.string ⟨#[]⟩))],[(0, 6),(6, 6)],none,false,[25, 25],none⟩),
   (85, ⟨16, 224,true,[.d (.v (.bool false)),.d (.v (.string ⟨#[]⟩)),.d (.v (.string ⟨#[]⟩)),.d (.v (.bool false)),.d (.v (.string ⟨#[]⟩)),.d (.v (.string ⟨#[]⟩)),.d (.v (.bool false)),.d (.v (.string ⟨#[]⟩)),.d (.v (.string ⟨#[]⟩)),.d (.v (.bool false)),.d (.v (.string ⟨#[]⟩)),.d (.v (.string ⟨#[]⟩)),.d (.v (.bool false)),.d (.v (.string ⟨#[]⟩)),.d (.v (.string ⟨#[]⟩)),.d (.v (.slice none 0 0))],[(0, 3),(3, 3),(6, 3),(9, 3),(12, 3),(15, 1)],none,false,[23, 23, 23, 23, 23, 66],none⟩),
   (96, ⟨1, 24,false,[.d (.v (.slice none 0 0))],[],some 154,false,[],none⟩),
   (97, ⟨3, 56,true,[.d (.v (.bool false)),.d (.v (.slice none 0 0)),.d (.v (.slice none 0 0))],[(0, 1),(1, 1),(2, 1)],none,false,[4, 96, 96],none⟩),
   (98, ⟨3, 56,true,[.d (.v (.bool false)),.d (.v (.slice none 0 0)),.d (.v (.slice none 0 0))],[(0, 1),(1, 1),(2, 1)],none,false,[4, 96, 96],none⟩),
   (122, ⟨3, 40,true,[.d (.v (.bool false)),.d (.v (.string ⟨#[]⟩)),.d (.v (.string ⟨#[]⟩))],[(0, 1),(1, 1),(2, 1)],none,false,[4, 9, 9],none⟩)]
def TB4 : List (Nat × Ty) :=
  [(123, ⟨3, 40,true,[.d (.v (.bool false)),.d (.v (.string ⟨#[]⟩)),.d (.v (.string ⟨#[]⟩))],[(0, 1),(1, 1),(2, 1)],none,false,[4, 9, 9],none⟩),
   (140, ⟨6, 112,true,[.d (.v (.bool false)),.d (.v (.slice none 0 0)),.d (.v (.slice none 0 0)),.d (.v (.bool false)),.d (.v (.slice none 0 0)),.d (.v (.slice none 0 0))],[(0, 3),(3, 3)],none,false,[98, 98],none⟩),
   (141, ⟨6, 112,true,[.d (.v (.bool false)),.d (.v (.slice none 0 0)),.d (.v (.slice none 0 0)),.d (.v (.bool false)),.d (.v (.slice none 0 0)),.d (.v (.slice none 0 0))],[(0, 3),(3, 3)],none,false,[98, 98],none⟩),
   (154, ⟨1, 4,false,[.d (.v (.int .u32 (0)))],[],none,false,[],none⟩),
   (196, ⟨8, 8,true,[.d (.v (.int .u8 (0))),.d (.v (.int .u8 (0))),.d (.v (.int .u8 (0))),.d (.v (.int .u8 (0))),.d (.v (.int .u8 (0))),.d (.v (.int .u8 (0))),.d (.v (.int .u8 (0))),.d (.v (.int .u8 (0)))],[],none,false,[],some (8, 5)⟩),
   (216, ⟨1, 8,false,[.d (.v (.int .i64 (0)))],[],none,false,[],none⟩),
   (230, ⟨6, 112,true,[.d (.v (.bool false)),.d (.v (.slice none 0 0)),.d (.v (.slice none 0 0)),.d (.v (.bool false)),.d (.v (.slice none 0 0)),.d (.v (.slice none 0 0))],[(0, 3),(3, 3)],none,false,[98, 98],none⟩),
   (231, ⟨6, 112,true,[.d (.v (.bool false)),.d (.v (.slice none 0 0)),.d (.v (.slice none 0 0)),.d (.v (.bool false)),.d (.v (.slice none 0 0)),.d (.v (.slice none 0 0))],[(0, 3),(3, 3)],none,false,[98, 98],none⟩),
   (238, ⟨1, 8,false,[.d (.v (.int .u64 (0)))],[],none,false,[],none⟩),
   (247, ⟨2, 2,true,[.d (.v (.int .u8 (0))),.d (.v (.int .u8 (0)))],[(0, 1),(1, 1)],none,false,[5, 5],none⟩),
   (248, ⟨2, 2,true,[.d (.v (.int .u8 (0))),.d (.v (.int .u8 (0)))],[(0, 1),(1, 1)],none,false,[5, 5],none⟩)]
def TBall (P : Program) : List (Nat × Ty) → Prop
  | [] => True
  | e :: r => tyOf P e.1 = some e.2 ∧ TBall P r
set_option maxRecDepth 100000 in
theorem ZlU : TBall Tryz.prog TB0 :=
  ⟨by kernel_rfl, by kernel_rfl, by kernel_rfl, by kernel_rfl, by kernel_rfl, by kernel_rfl, by kernel_rfl, by kernel_rfl, by kernel_rfl, by kernel_rfl, by kernel_rfl, by kernel_rfl, trivial⟩
set_option maxRecDepth 100000 in
theorem ZlT : TBall Tryz.prog TB1 :=
  ⟨by kernel_rfl, by kernel_rfl, by kernel_rfl, by kernel_rfl, by kernel_rfl, by kernel_rfl, by kernel_rfl, by kernel_rfl, by kernel_rfl, by kernel_rfl, by kernel_rfl, by kernel_rfl, trivial⟩
set_option maxRecDepth 100000 in
theorem ZlS : TBall Tryz.prog TB2 :=
  ⟨by kernel_rfl, by kernel_rfl, by kernel_rfl, by kernel_rfl, by kernel_rfl, by kernel_rfl, by kernel_rfl, by kernel_rfl, by kernel_rfl, by kernel_rfl, by kernel_rfl, by kernel_rfl, trivial⟩
set_option maxRecDepth 100000 in
theorem ZlR : TBall Tryz.prog TB3 :=
  ⟨by kernel_rfl, by kernel_rfl, by kernel_rfl, by kernel_rfl, by kernel_rfl, by kernel_rfl, by kernel_rfl, by kernel_rfl, by kernel_rfl, by kernel_rfl, by kernel_rfl, by kernel_rfl, trivial⟩
set_option maxRecDepth 100000 in
theorem ZlQ : TBall Tryz.prog TB4 :=
  ⟨by kernel_rfl, by kernel_rfl, by kernel_rfl, by kernel_rfl, by kernel_rfl, by kernel_rfl, by kernel_rfl, by kernel_rfl, by kernel_rfl, by kernel_rfl, by kernel_rfl, trivial⟩
def TB : List (Nat × Ty) := [(23, ⟨3, 40,true,[.d (.v (.bool false)),.d (.v (.string ⟨#[]⟩)),.d (.v (.string ⟨#[]⟩))],[(0, 1),(1, 1),(2, 1)],none,false,[4, 9, 9],none⟩),
   (25, ⟨6, 80,true,[.d (.v (.bool false)),.d (.v (.string ⟨#[]⟩)),.d (.v (.string ⟨#[]⟩)),.d (.v (.bool false)),.d (.v (.string ⟨#[]⟩)),.d (.v (.string ⟨#[]⟩))],[(0, 3),(3, 3)],none,false,[23, 23],none⟩),
   (27, ⟨4, 48,true,[.d (.v (.bool false)),.d (.v (.bool false)),.d (.v (.string ⟨#[]⟩)),.d (.v (.string ⟨#[]⟩))],[(0, 1),(1, 3)],none,false,[4, 23],none⟩),
   (29, ⟨10, 128,true,[.d (.v (.bool false)),.d (.v (.string ⟨#[]⟩)),.d (.v (.string ⟨#[]⟩)),.d (.v (.bool false)),.d (.v (.string ⟨#[]⟩)),.d (.v (.string ⟨#[]⟩)),.d (.v (.bool false)),.d (.v (.bool false)),.d (.v (.string ⟨#[]⟩)),.d (.v (.string ⟨#[]⟩))],[(0, 6),(6, 4)],none,false,[25, 27],none⟩),
   (32, ⟨12, 168,true,[.d (.v (.string ⟨#[]⟩)),.d (.v (.bool false)),.d (.v (.string ⟨#[]⟩)),.d (.v (.string ⟨#[]⟩)),.d (.v (.bool false)),.d (.v (.string ⟨#[]⟩)),.d (.v (.string ⟨#[]⟩)),.d (.v (.bool false)),.d (.v (.bool false)),.d (.v (.string ⟨#[]⟩)),.d (.v (.string ⟨#[]⟩)),.d (.v (.slice none 0 0))],[(0, 1),(1, 10),(11, 1)],none,false,[9, 29, 30],none⟩),
   (35, ⟨1, 24,false,[.d (.v (.slice none 0 0))],[],some 42,false,[],none⟩),
   (36, ⟨1, 8,false,[.d (.v (.int .i64 (0)))],[],none,false,[],none⟩),
   (42, ⟨2, 32,true,[.d (.v (.int .i64 (0))),.d (.v (.slice none 0 0))],[(0, 1),(1, 1)],none,false,[3, 33],none⟩),
   (55, ⟨6, 80,true,[.d (.v (.bool false)),.d (.v (.string ⟨#[]⟩)),.d (.v (.string ⟨#[]⟩)),.d (.v (.bool false)),.d (.v (.string ⟨#[]⟩)),.d (.v (.string ⟨#[]⟩))],[(0, 3),(3, 3)],none,false,[23, 23],none⟩),
   (71, ⟨12, 160,true,[.d (.v (.bool false)),.d (.v (.string ⟨#[]⟩)),.d (.v (.string ⟨#[]⟩)),.d (.v (.bool false)),.d (.v (.string ⟨#[]⟩)),.d (.v (.string ⟨#[]⟩)),.d (.v (.bool false)),.d (.v (.string ⟨#[]⟩)),.d (.v (.string ⟨#[]⟩)),.d (.v (.bool false)),.d (.v (.string ⟨#[]⟩)),.d (.v (.string ⟨#[]⟩))],[(0, 6),(6, 6)],none,false,[25, 25],none⟩),
   (86, ⟨16, 224,true,[.d (.v (.bool false)),.d (.v (.string ⟨#[]⟩)),.d (.v (.string ⟨#[]⟩)),.d (.v (.bool false)),.d (.v (.string ⟨#[]⟩)),.d (.v (.string ⟨#[]⟩)),.d (.v (.bool false)),.d (.v (.string ⟨#[]⟩)),.d (.v (.string ⟨#[]⟩)),.d (.v (.bool false)),.d (.v (.string ⟨#[]⟩)),.d (.v (.string ⟨#[]⟩)),.d (.v (.bool false)),.d (.v (.string ⟨#[]⟩)),.d (.v (.string ⟨#[]⟩)),.d (.v (.slice none 0 0))],[(0, 3),(3, 3),(6, 3),(9, 3),(12, 3),(15, 1)],none,false,[23, 23, 23, 23, 23, 66],none⟩),
   (30, ⟨1, 24,false,[.d (.v (.slice none 0 0))],[],some 86,false,[],none⟩),(33, ⟨1, 24,false,[.d (.v (.slice none 0 0))],[],some 23,false,[],none⟩),
   (34, ⟨1, 24,false,[.d (.v (.slice none 0 0))],[],some 42,false,[],none⟩),
   (51, ⟨1, 24,false,[.d (.v (.slice none 0 0))],[],some 98,false,[],none⟩),
   (66, ⟨1, 24,false,[.d (.v (.slice none 0 0))],[],some 25,false,[],none⟩),
   (83, ⟨1, 24,false,[.d (.v (.slice none 0 0))],[],some 33,false,[],none⟩),
   (90, ⟨1, 24,false,[.d (.v (.slice none 0 0))],[],some 3,false,[],none⟩),
   (95, ⟨1, 24,false,[.d (.v (.slice none 0 0))],[],some 154,false,[],none⟩),
   (118, ⟨1, 24,false,[.d (.v (.slice none 0 0))],[],some 5,false,[],none⟩),
   (205, ⟨1, 24,false,[.d (.v (.slice none 0 0))],[],some 57,false,[],none⟩),
   (228, ⟨1, 24,false,[.d (.v (.slice none 0 0))],[],some 231,false,[],none⟩),
   (2, ⟨1, 8,false,[.d (.v (.int .i64 (0)))],[],none,false,[],none⟩),
   (3, ⟨1, 8,false,[.d (.v (.int .i64 (0)))],[],none,false,[],none⟩),(4, ⟨1, 1,false,[.d (.v (.bool false))],[],none,false,[],none⟩),
   (5, ⟨1, 1,false,[.d (.v (.int .u8 (0)))],[],none,false,[],none⟩),
   (7, ⟨4, 24,true,[.d (.v (.int .i64 (0))),.d (.v (.int .i64 (0))),.d (.v (.bool false)),.d (.v (.int .u8 (0)))],[(0, 1),(1, 1),(2, 1),(3, 1)],none,false,[2, 3, 4, 6],none⟩),
   (9, ⟨1, 16,false,[.d (.v (.string ⟨#[]⟩))],[],none,true,[],none⟩),
   (12, ⟨1, 8,false,[.d (.v (.int .u64 (0)))],[],none,false,[],none⟩),
   (13, ⟨2, 24,true,[.d (.v (.string ⟨#[]⟩)),.d (.v (.int .u64 (0)))],[(0, 1),(1, 1)],none,false,[9, 12],none⟩),
   (21, ⟨1, 4,false,[.d (.v (.int .i32 (0)))],[],none,false,[],none⟩),
   (22, ⟨3, 40,true,[.d (.v (.bool false)),.d (.v (.string ⟨#[]⟩)),.d (.v (.string ⟨#[]⟩))],[(0, 1),(1, 1),(2, 1)],none,false,[4, 9, 9],none⟩),
   (24, ⟨6, 80,true,[.d (.v (.bool false)),.d (.v (.string ⟨#[]⟩)),.d (.v (.string ⟨#[]⟩)),.d (.v (.bool false)),.d (.v (.string ⟨#[]⟩)),.d (.v (.string ⟨#[]⟩))],[(0, 3),(3, 3)],none,false,[23, 23],none⟩),
   (26, ⟨4, 48,true,[.d (.v (.bool false)),.d (.v (.bool false)),.d (.v (.string ⟨#[]⟩)),.d (.v (.string ⟨#[]⟩))],[(0, 1),(1, 3)],none,false,[4, 23],none⟩),
   (28, ⟨10, 128,true,[.d (.v (.bool false)),.d (.v (.string ⟨#[]⟩)),.d (.v (.string ⟨#[]⟩)),.d (.v (.bool false)),.d (.v (.string ⟨#[]⟩)),.d (.v (.string ⟨#[]⟩)),.d (.v (.bool false)),.d (.v (.bool false)),.d (.v (.string ⟨#[]⟩)),.d (.v (.string ⟨#[]⟩))],[(0, 6),(6, 4)],none,false,[25, 27],none⟩),
   (31, ⟨12, 168,true,[.d (.v (.string ⟨#[]⟩)),.d (.v (.bool false)),.d (.v (.string ⟨#[]⟩)),.d (.v (.string ⟨#[]⟩)),.d (.v (.bool false)),.d (.v (.string ⟨#[]⟩)),.d (.v (.string ⟨#[]⟩)),.d (.v (.bool false)),.d (.v (.bool false)),.d (.v (.string ⟨#[]⟩)),.d (.v (.string ⟨#[]⟩)),.d (.v (.slice none 0 0))],[(0, 1),(1, 10),(11, 1)],none,false,[9, 29, 30],none⟩),(41, ⟨2, 32,true,[.d (.v (.int .i64 (0))),.d (.v (.slice none 0 0))],[(0, 1),(1, 1)],none,false,[3, 33],none⟩),
   (47, ⟨1, 8,false,[.d (.v (.nilFunc))],[],none,false,[],none⟩),
   (54, ⟨6, 80,true,[.d (.v (.bool false)),.d (.v (.string ⟨#[]⟩)),.d (.v (.string ⟨#[]⟩)),.d (.v (.bool false)),.d (.v (.string ⟨#[]⟩)),.d (.v (.string ⟨#[]⟩))],[(0, 3),(3, 3)],none,false,[23, 23],none⟩),
   (57, ⟨1, 8,false,[.d (.v (.int .u64 (0)))],[],none,false,[],none⟩),
   (60, ⟨1, 8,false,[.d (.v (.nilFunc))],[],none,false,[],none⟩),
   (63, ⟨1, 8,false,[.d (.v (.int .u64 (0)))],[],none,false,[],none⟩),
   (70, ⟨12, 160,true,[.d (.v (.bool false)),.d (.v (.string ⟨#[]⟩)),.d (.v (.string ⟨#[]⟩)),.d (.v (.bool false)),.d (.v (.string ⟨#[]⟩)),.d (.v (.string ⟨#[]⟩)),.d (.v (.bool false)),.d (.v (.string ⟨#[]⟩)),.d (.v (.string ⟨#[]⟩)),.d (.v (.bool false)),.d (.v (.string ⟨#[]⟩)),.d (.v (.string ⟨#[]⟩))],[(0, 6),(6, 6)],none,false,[25, 25],none⟩),
   (85, ⟨16, 224,true,[.d (.v (.bool false)),.d (.v (.string ⟨#[]⟩)),.d (.v (.string ⟨#[]⟩)),.d (.v (.bool false)),.d (.v (.string ⟨#[]⟩)),.d (.v (.string ⟨#[]⟩)),.d (.v (.bool false)),.d (.v (.string ⟨#[]⟩)),.d (.v (.string ⟨#[]⟩)),.d (.v (.bool false)),.d (.v (.string ⟨#[]⟩)),.d (.v (.string ⟨#[]⟩)),.d (.v (.bool false)),.d (.v (.string ⟨#[]⟩)),.d (.v (.string ⟨#[]⟩)),.d (.v (.slice none 0 0))],[(0, 3),(3, 3),(6, 3),(9, 3),(12, 3),(15, 1)],none,false,[23, 23, 23, 23, 23, 66],none⟩),
   (96, ⟨1, 24,false,[.d (.v (.slice none 0 0))],[],some 154,false,[],none⟩),
   (97, ⟨3, 56,true,[.d (.v (.bool false)),.d (.v (.slice none 0 0)),.d (.v (.slice none 0 0))],[(0, 1),(1, 1),(2, 1)],none,false,[4, 96, 96],none⟩),
   (98, ⟨3, 56,true,[.d (.v (.bool false)),.d (.v (.slice none 0 0)),.d (.v (.slice none 0 0))],[(0, 1),(1, 1),(2, 1)],none,false,[4, 96, 96],none⟩),
   (122, ⟨3, 40,true,[.d (.v (.bool false)),.d (.v (.string ⟨#[]⟩)),.d (.v (.string ⟨#[]⟩))],[(0, 1),(1, 1),(2, 1)],none,false,[4, 9, 9],none⟩),(123, ⟨3, 40,true,[.d (.v (.bool false)),.d (.v (.string ⟨#[]⟩)),.d (.v (.string ⟨#[]⟩))],[(0, 1),(1, 1),(2, 1)],none,false,[4, 9, 9],none⟩),
   (140, ⟨6, 112,true,[.d (.v (.bool false)),.d (.v (.slice none 0 0)),.d (.v (.slice none 0 0)),.d (.v (.bool false)),.d (.v (.slice none 0 0)),.d (.v (.slice none 0 0))],[(0, 3),(3, 3)],none,false,[98, 98],none⟩),
   (141, ⟨6, 112,true,[.d (.v (.bool false)),.d (.v (.slice none 0 0)),.d (.v (.slice none 0 0)),.d (.v (.bool false)),.d (.v (.slice none 0 0)),.d (.v (.slice none 0 0))],[(0, 3),(3, 3)],none,false,[98, 98],none⟩),
   (154, ⟨1, 4,false,[.d (.v (.int .u32 (0)))],[],none,false,[],none⟩),
   (196, ⟨8, 8,true,[.d (.v (.int .u8 (0))),.d (.v (.int .u8 (0))),.d (.v (.int .u8 (0))),.d (.v (.int .u8 (0))),.d (.v (.int .u8 (0))),.d (.v (.int .u8 (0))),.d (.v (.int .u8 (0))),.d (.v (.int .u8 (0)))],[],none,false,[],some (8, 5)⟩),
   (216, ⟨1, 8,false,[.d (.v (.int .i64 (0)))],[],none,false,[],none⟩),
   (230, ⟨6, 112,true,[.d (.v (.bool false)),.d (.v (.slice none 0 0)),.d (.v (.slice none 0 0)),.d (.v (.bool false)),.d (.v (.slice none 0 0)),.d (.v (.slice none 0 0))],[(0, 3),(3, 3)],none,false,[98, 98],none⟩),
   (231, ⟨6, 112,true,[.d (.v (.bool false)),.d (.v (.slice none 0 0)),.d (.v (.slice none 0 0)),.d (.v (.bool false)),.d (.v (.slice none 0 0)),.d (.v (.slice none 0 0))],[(0, 3),(3, 3)],none,false,[98, 98],none⟩),
   (238, ⟨1, 8,false,[.d (.v (.int .u64 (0)))],[],none,false,[],none⟩),
   (247, ⟨2, 2,true,[.d (.v (.int .u8 (0))),.d (.v (.int .u8 (0)))],[(0, 1),(1, 1)],none,false,[5, 5],none⟩),
   (248, ⟨2, 2,true,[.d (.v (.int .u8 (0))),.d (.v (.int .u8 (0)))],[(0, 1),(1, 1)],none,false,[5, 5],none⟩)]
theorem TBall.mem {P : Program} {L : List (Nat × Ty)} (h : TBall P L) {e : Nat × Ty} (he : e ∈ L) : tyOf P e.1 = some e.2 := by
  induction L with
  | nil => simp at he
  | cons x r ih =>
    rcases List.mem_cons.1 he with rfl | he
    · exact h.1
    · exact ih h.2 he
set_option maxRecDepth 100000 in
theorem ZmZ : TB = TB0 ++ TB1 ++ TB2 ++ TB3 ++ TB4 := by kernel_rfl
theorem Zlf : TBok Tryz.prog TB := by
  intro t ty h
  rw [ZmZ] at h
  simp only [List.mem_append] at h
  rcases h with (((h | h) | h) | h) | h
  · exact TBall.mem (e := (t, ty)) ZlU h
  · exact TBall.mem (e := (t, ty)) ZlT h
  · exact TBall.mem (e := (t, ty)) ZlS h
  · exact TBall.mem (e := (t, ty)) ZlR h
  · exact TBall.mem (e := (t, ty)) ZlQ h
def prmOf (P : Program) (nt : Nat) : Prm := ⟨P, Tab, TB, ⟨nt,[],false⟩,[]⟩
def prmOwn (P : Program) (nt : Nat) (own : List Nat) : Prm := ⟨P, Tab, TB, ⟨nt,[],false⟩, own⟩
def prmL (P : Program) (nt i : Nat) (own : List Nat) : Prm := ⟨P, Tab, TB, ⟨nt,[i],false⟩, own⟩
theorem mixed : Tryz.prog.follows .mixedOrders = true := by kernel_rfl
end Go.Proofs.YtbgokkfhohodgaaGreatDoor.eng
