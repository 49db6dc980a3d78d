/- The engine at this program: the table of its types, and that it is the program's. Printed by wip/gen_tb.py. -/
import Derived.Test.YtjlhknppkodilaaGreatDoorEng
import Derived.Test.YtjlhknppkodilaaGreatDoorTab
import Derived.Test.YtjlhknppkodilaaGreatDoorSeg
namespace Go.Proofs.YtjlhknppkodilaaGreatDoor.eng
open Go.RowKit mem seg
abbrev tzB : C := .d (.v (.bool false))
abbrev tzS : C := .d (.v (.string ⟨#[]⟩))
abbrev tzN : C := .d (.v (.slice none 0 0))
def TB : List (Nat × Ty) := [(23, ⟨3, 40,true,[tzB, tzS, tzS],[(0, 1),(1, 1),(2, 1)],none,false,[4, 9, 9],none⟩),
   (25, ⟨6, 80,true,[tzB, tzS, tzS, tzB, tzS, tzS],[(0, 3),(3, 3)],none,false,[23, 23],none⟩),
   (27, ⟨4, 48,true,[tzB, tzB, tzS, tzS],[(0, 1),(1, 3)],none,false,[4, 23],none⟩),
   (29, ⟨10, 128,true,[tzB, tzS, tzS, tzB, tzS, tzS, tzB, tzB, tzS, tzS],[(0, 6),(6, 4)],none,false,[25, 27],none⟩),
   (32, ⟨12, 168,true,[tzS, tzB, tzS, tzS, tzB, tzS, tzS, tzB, tzB, tzS, tzS, tzN],[(0, 1),(1, 10),(11, 1)],none,false,[9, 29, 30],none⟩),
   (35, ⟨1, 24,false,[tzN],[],some 42,false,[],none⟩),
   (36, ⟨1, 8,false,[.d (.v (.int .i64 (0)))],[],none,false,[],none⟩),
   (42, ⟨2, 32,true,[.d (.v (.int .i64 (0))), tzN],[(0, 1),(1, 1)],none,false,[3, 33],none⟩),
   (49, ⟨16, 224,true,[tzB, tzS, tzS, tzB, tzS, tzS, tzB, tzS, tzS, tzB, tzS, tzS, tzB, tzS, tzS, tzN],[(0, 3),(3, 3),(6, 3),(9, 3),(12, 3),(15, 1)],none,false,[23, 23, 23, 23, 23, 47],none⟩),
   (189, ⟨6, 80,true,[tzB, tzS, tzS, tzB, tzS, tzS],[(0, 3),(3, 3)],none,false,[23, 23],none⟩),
   (30, ⟨1, 24,false,[tzN],[],some 49,false,[],none⟩),
   (33, ⟨1, 24,false,[tzN],[],some 23,false,[],none⟩),(34, ⟨1, 24,false,[tzN],[],some 42,false,[],none⟩),
   (45, ⟨1, 24,false,[tzN],[],some 33,false,[],none⟩),
   (47, ⟨1, 24,false,[tzN],[],some 25,false,[],none⟩),
   (56, ⟨1, 24,false,[tzN],[],some 3,false,[],none⟩),
   (59, ⟨1, 24,false,[tzN],[],some 65,false,[],none⟩),
   (62, ⟨1, 24,false,[tzN],[],some 103,false,[],none⟩),
   (116, ⟨1, 24,false,[tzN],[],some 5,false,[],none⟩),
   (128, ⟨1, 24,false,[tzN],[],some 100,false,[],none⟩),
   (137, ⟨1, 24,false,[tzN],[],some 140,false,[],none⟩),
   (2, ⟨1, 8,false,[.d (.v (.int .i64 (0)))],[],none,false,[],none⟩),
   (3, ⟨1, 8,false,[.d (.v (.int .i64 (0)))],[],none,false,[],none⟩),
   (4, ⟨1, 1,false,[tzB],[],none,false,[],none⟩),(5, ⟨1, 1,false,[.d (.v (.int .u8 (0)))],[],none,false,[],none⟩),
   (7, ⟨4, 24,true,[.d (.v (.int .i64 (0))),.d (.v (.int .i64 (0))), tzB, .d (.v (.int .u8 (0)))],[(0, 1),(1, 1),(2, 1),(3, 1)],none,false,[2, 3, 4, 6],none⟩),
   (9, ⟨1, 16,false,[tzS],[],none,true,[],none⟩),
   (12, ⟨1, 8,false,[.d (.v (.int .u64 (0)))],[],none,false,[],none⟩),
   (13, ⟨2, 24,true,[tzS, .d (.v (.int .u64 (0)))],[(0, 1),(1, 1)],none,false,[9, 12],none⟩),
   (21, ⟨1, 4,false,[.d (.v (.int .i32 (0)))],[],none,false,[],none⟩),
   (22, ⟨3, 40,true,[tzB, tzS, tzS],[(0, 1),(1, 1),(2, 1)],none,false,[4, 9, 9],none⟩),
   (24, ⟨6, 80,true,[tzB, tzS, tzS, tzB, tzS, tzS],[(0, 3),(3, 3)],none,false,[23, 23],none⟩),
   (26, ⟨4, 48,true,[tzB, tzB, tzS, tzS],[(0, 1),(1, 3)],none,false,[4, 23],none⟩),
   (28, ⟨10, 128,true,[tzB, tzS, tzS, tzB, tzS, tzS, tzB, tzB, tzS, tzS],[(0, 6),(6, 4)],none,false,[25, 27],none⟩),
   (31, ⟨12, 168,true,[tzS, tzB, tzS, tzS, tzB, tzS, tzS, tzB, tzB, tzS, tzS, tzN],[(0, 1),(1, 10),(11, 1)],none,false,[9, 29, 30],none⟩),
   (41, ⟨2, 32,true,[.d (.v (.int .i64 (0))), tzN],[(0, 1),(1, 1)],none,false,[3, 33],none⟩),(48, ⟨16, 224,true,[tzB, tzS, tzS, tzB, tzS, tzS, tzB, tzS, tzS, tzB, tzS, tzS, tzB, tzS, tzS, tzN],[(0, 3),(3, 3),(6, 3),(9, 3),(12, 3),(15, 1)],none,false,[23, 23, 23, 23, 23, 47],none⟩),
   (63, ⟨1, 24,false,[tzN],[],some 103,false,[],none⟩),
   (64, ⟨3, 56,true,[tzB, tzN, tzN],[(0, 1),(1, 1),(2, 1)],none,false,[4, 63, 63],none⟩),
   (65, ⟨3, 56,true,[tzB, tzN, tzN],[(0, 1),(1, 1),(2, 1)],none,false,[4, 63, 63],none⟩),
   (83, ⟨6, 112,true,[tzB, tzN, tzN, tzB, tzN, tzN],[(0, 3),(3, 3)],none,false,[65, 65],none⟩),
   (84, ⟨6, 112,true,[tzB, tzN, tzN, tzB, tzN, tzN],[(0, 3),(3, 3)],none,false,[65, 65],none⟩),
   (100, ⟨1, 8,false,[.d (.v (.int .u64 (0)))],[],none,false,[],none⟩),
   (103, ⟨1, 4,false,[.d (.v (.int .u32 (0)))],[],none,false,[],none⟩),
   (104, ⟨1, 8,false,[.d (.v (.int .u64 (0)))],[],none,false,[],none⟩),
   (120, ⟨8, 8,true,[.d (.v (.int .u8 (0))),.d (.v (.int .u8 (0))),.d (.v (.int .u8 (0))),.d (.v (.int .u8 (0))),.d (.v (.int .u8 (0))),.d (.v (.int .u8 (0))),.d (.v (.int .u8 (0))),.d (.v (.int .u8 (0)))],[],none,false,[],some (8, 5)⟩),
   (139, ⟨6, 112,true,[tzB, tzN, tzN, tzB, tzN, tzN],[(0, 3),(3, 3)],none,false,[65, 65],none⟩),
   (140, ⟨6, 112,true,[tzB, tzN, tzN, tzB, tzN, tzN],[(0, 3),(3, 3)],none,false,[65, 65],none⟩),(166, ⟨2, 2,true,[.d (.v (.int .u8 (0))),.d (.v (.int .u8 (0)))],[(0, 1),(1, 1)],none,false,[5, 5],none⟩),
   (167, ⟨2, 2,true,[.d (.v (.int .u8 (0))),.d (.v (.int .u8 (0)))],[(0, 1),(1, 1)],none,false,[5, 5],none⟩),
   (188, ⟨6, 80,true,[tzB, tzS, tzS, tzB, tzS, tzS],[(0, 3),(3, 3)],none,false,[23, 23],none⟩)]
def TB0 : List (Nat × Ty) := (TB.drop 0).take 12
def TB1 : List (Nat × Ty) := (TB.drop 12).take 12
def TB2 : List (Nat × Ty) := (TB.drop 24).take 12
def TB3 : List (Nat × Ty) := (TB.drop 36).take 12
def TB4 : List (Nat × Ty) := (TB.drop 48).take 3
def TBall (P : Program) : List (Nat × Ty) → Prop
  | [] => True
  | e :: r => tyOf P e.1 = some e.2 ∧ TBall P r
set_option maxRecDepth 100000 in
theorem ZoZ : TBall Tryz.prog TB0 :=
  ⟨by kernel_rfl, by kernel_rfl, by kernel_rfl, by kernel_rfl, by kernel_rfl, by kernel_rfl, by kernel_rfl, by kernel_rfl, by kernel_rfl, by kernel_rfl, by kernel_rfl, by kernel_rfl, trivial⟩
set_option maxRecDepth 100000 in
theorem ZoY : TBall Tryz.prog TB1 :=
  ⟨by kernel_rfl, by kernel_rfl, by kernel_rfl, by kernel_rfl, by kernel_rfl, by kernel_rfl, by kernel_rfl, by kernel_rfl, by kernel_rfl, by kernel_rfl, by kernel_rfl, by kernel_rfl, trivial⟩
set_option maxRecDepth 100000 in
theorem ZoX : TBall Tryz.prog TB2 :=
  ⟨by kernel_rfl, by kernel_rfl, by kernel_rfl, by kernel_rfl, by kernel_rfl, by kernel_rfl, by kernel_rfl, by kernel_rfl, by kernel_rfl, by kernel_rfl, by kernel_rfl, by kernel_rfl, trivial⟩
set_option maxRecDepth 100000 in
theorem ZoW : TBall Tryz.prog TB3 :=
  ⟨by kernel_rfl, by kernel_rfl, by kernel_rfl, by kernel_rfl, by kernel_rfl, by kernel_rfl, by kernel_rfl, by kernel_rfl, by kernel_rfl, by kernel_rfl, by kernel_rfl, by kernel_rfl, trivial⟩
set_option maxRecDepth 100000 in
theorem ZoV : TBall Tryz.prog TB4 :=
  ⟨by kernel_rfl, by kernel_rfl, by kernel_rfl, trivial⟩
theorem TBall.mem {P : Program} {L : List (Nat × Ty)} (h : TBall P L) {e : Nat × Ty} (he : e ∈ L) : tyOf P e.1 = some e.2 := by
  induction L with
  | nil => simp at he
  | cons x r ih =>
    rcases List.mem_cons.1 he with rfl | he
    · exact h.1
    · exact ih h.2 he
set_option maxRecDepth 100000 in
theorem ZpY : TB = TB0 ++ TB1 ++ TB2 ++ TB3 ++ TB4 := by kernel_rfl
theorem Zmo : TBok Tryz.prog TB := by
  intro t ty h
  rw [ZpY] at h
  simp only [List.mem_append] at h
  rcases h with (((h | h) | h) | h) | h
  · exact TBall.mem (e := (t, ty)) ZoZ h
  · exact TBall.mem (e := (t, ty)) ZoY h
  · exact TBall.mem (e := (t, ty)) ZoX h
  · exact TBall.mem (e := (t, ty)) ZoW h
  · exact TBall.mem (e := (t, ty)) ZoV h
def prmOf (P : Program) (nt : Nat) : Prm := ⟨P, Tab, TB, ⟨nt,[],false⟩,[]⟩
def prmOwn (P : Program) (nt : Nat) (own : List Nat) : Prm := ⟨P, Tab, TB, ⟨nt,[],false⟩, own⟩
def prmL (P : Program) (nt i : Nat) (own : List Nat) : Prm := ⟨P, Tab, TB, ⟨nt,[i],false⟩, own⟩
theorem mixed : Tryz.prog.follows .mixedOrders = true := by kernel_rfl
end Go.Proofs.YtjlhknppkodilaaGreatDoor.eng
