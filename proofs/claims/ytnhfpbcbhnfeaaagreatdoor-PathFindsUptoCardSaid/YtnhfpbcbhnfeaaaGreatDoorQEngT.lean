/- The engine at this program: the table of its types, and that it is the program's. Printed by wip/gen_tb.py. -/
import Derived.Test.YtnhfpbcbhnfeaaaGreatDoorQEng
import Derived.Test.YtnhfpbcbhnfeaaaGreatDoorQSeg
namespace Go.Proofs.YtnhfpbcbhnfeaaaGreatDoor.eng
open Go.RowKit mem seg
abbrev tzB : C := .d (.v (.bool false))
abbrev tzS : C := .d (.v (.string ⟨#[]⟩))
abbrev tzN : C := .d (.v (.slice none 0 0))
def TB : List (Nat × Ty) := [(23, ⟨3, 40,true,[tzB, tzS, tzS],[(0, 1),(1, 1),(2, 1)],none,false,[4, 9, 9],none⟩),
   (25, ⟨6, 80,true,[tzB, tzS, tzS, tzB, tzS, tzS],[(0, 3),(3, 3)],none,false,[23, 23],none⟩),
   (27, ⟨4, 48,true,[tzB, tzB, tzS, tzS],[(0, 1),(1, 3)],none,false,[4, 23],none⟩),
   (29, ⟨10, 128,true,[tzB, tzS, tzS, tzB, tzS, tzS, tzB, tzB, tzS, tzS],[(0, 6),(6, 4)],none,false,[25, 27],none⟩),
   (32, ⟨12, 168,true,[tzS, tzB, tzS, tzS, tzB, tzS, tzS, tzB, tzB, tzS, tzS, tzN],[(0, 1),(1, 10),(11, 1)],none,false,[9, 29, 30],none⟩),
   (36, ⟨1, 8,false,[.d (.v (.int .i64 (0)))],[],none,false,[],none⟩),
   (56, ⟨16, 224,true,[tzB, tzS, tzS, tzB, tzS, tzS, tzB, tzS, tzS, tzB, tzS, tzS, tzB, tzS, tzS, tzN],[(0, 3),(3, 3),(6, 3),(9, 3),(12, 3),(15, 1)],none,false,[23, 23, 23, 23, 23, 54],none⟩),
   (126, ⟨12, 160,true,[tzB, tzS, tzS, tzB, tzS, tzS, tzB, tzS, tzS, tzB, tzS, tzS],[(0, 6),(6, 6)],none,false,[25, 25],none⟩),
   (165, ⟨6, 80,true,[tzB, tzS, tzS, tzB, tzS, tzS],[(0, 3),(3, 3)],none,false,[23, 23],none⟩),
   (30, ⟨1, 24,false,[tzN],[],some 56,false,[],none⟩),
   (33, ⟨1, 24,false,[tzN],[],some 23,false,[],none⟩),
   (34, ⟨1, 24,false,[tzN],[],some 54,false,[],none⟩),(39, ⟨1, 24,false,[tzN],[],some 33,false,[],none⟩),
   (49, ⟨1, 24,false,[tzN],[],some 151,false,[],none⟩),
   (54, ⟨1, 24,false,[tzN],[],some 25,false,[],none⟩),
   (61, ⟨1, 24,false,[tzN],[],some 3,false,[],none⟩),
   (76, ⟨1, 24,false,[tzN],[],some 61,false,[],none⟩),
   (81, ⟨1, 24,false,[tzN],[],some 76,false,[],none⟩),
   (97, ⟨1, 24,false,[tzN],[],some 100,false,[],none⟩),
   (112, ⟨1, 24,false,[tzN],[],some 116,false,[],none⟩),
   (118, ⟨1, 24,false,[tzN],[],some 121,false,[],none⟩),
   (121, ⟨1, 24,false,[tzN],[],some 165,false,[],none⟩),
   (122, ⟨1, 24,false,[tzN],[],some 126,false,[],none⟩),
   (136, ⟨1, 24,false,[tzN],[],some 138,false,[],none⟩),(140, ⟨1, 24,false,[tzN],[],some 97,false,[],none⟩),
   (166, ⟨1, 24,false,[tzN],[],some 172,false,[],none⟩),
   (181, ⟨1, 24,false,[tzN],[],some 52,false,[],none⟩),
   (185, ⟨1, 24,false,[tzN],[],some 188,false,[],none⟩),
   (234, ⟨1, 24,false,[tzN],[],some 5,false,[],none⟩),
   (272, ⟨1, 24,false,[tzN],[],some 152,false,[],none⟩),
   (2, ⟨1, 8,false,[.d (.v (.int .i64 (0)))],[],none,false,[],none⟩),
   (3, ⟨1, 8,false,[.d (.v (.int .i64 (0)))],[],none,false,[],none⟩),
   (4, ⟨1, 1,false,[tzB],[],none,false,[],none⟩),
   (5, ⟨1, 1,false,[.d (.v (.int .u8 (0)))],[],none,false,[],none⟩),
   (7, ⟨4, 24,true,[.d (.v (.int .i64 (0))),.d (.v (.int .i64 (0))), tzB, .d (.v (.int .u8 (0)))],[(0, 1),(1, 1),(2, 1),(3, 1)],none,false,[2, 3, 4, 6],none⟩),
   (9, ⟨1, 16,false,[tzS],[],none,true,[],none⟩),(12, ⟨1, 8,false,[.d (.v (.int .u64 (0)))],[],none,false,[],none⟩),
   (13, ⟨2, 24,true,[tzS, .d (.v (.int .u64 (0)))],[(0, 1),(1, 1)],none,false,[9, 12],none⟩),
   (21, ⟨1, 4,false,[.d (.v (.int .i32 (0)))],[],none,false,[],none⟩),
   (22, ⟨3, 40,true,[tzB, tzS, tzS],[(0, 1),(1, 1),(2, 1)],none,false,[4, 9, 9],none⟩),
   (24, ⟨6, 80,true,[tzB, tzS, tzS, tzB, tzS, tzS],[(0, 3),(3, 3)],none,false,[23, 23],none⟩),
   (26, ⟨4, 48,true,[tzB, tzB, tzS, tzS],[(0, 1),(1, 3)],none,false,[4, 23],none⟩),
   (28, ⟨10, 128,true,[tzB, tzS, tzS, tzB, tzS, tzS, tzB, tzB, tzS, tzS],[(0, 6),(6, 4)],none,false,[25, 27],none⟩),
   (31, ⟨12, 168,true,[tzS, tzB, tzS, tzS, tzB, tzS, tzS, tzB, tzB, tzS, tzS, tzN],[(0, 1),(1, 10),(11, 1)],none,false,[9, 29, 30],none⟩),
   (50, ⟨1, 24,false,[tzN],[],some 151,false,[],none⟩),
   (51, ⟨3, 56,true,[tzB, tzN, tzN],[(0, 1),(1, 1),(2, 1)],none,false,[4, 50, 50],none⟩),
   (52, ⟨3, 56,true,[tzB, tzN, tzN],[(0, 1),(1, 1),(2, 1)],none,false,[4, 50, 50],none⟩),
   (55, ⟨16, 224,true,[tzB, tzS, tzS, tzB, tzS, tzS, tzB, tzS, tzS, tzB, tzS, tzS, tzB, tzS, tzS, tzN],[(0, 3),(3, 3),(6, 3),(9, 3),(12, 3),(15, 1)],none,false,[23, 23, 23, 23, 23, 54],none⟩),(57, ⟨6, 112,true,[tzB, tzN, tzN, tzB, tzN, tzN],[(0, 3),(3, 3)],none,false,[52, 52],none⟩),
   (58, ⟨6, 112,true,[tzB, tzN, tzN, tzB, tzN, tzN],[(0, 3),(3, 3)],none,false,[52, 52],none⟩),
   (68, ⟨1, 8,false,[.d (.v (.pointer none))],[],none,false,[],none⟩),
   (69, ⟨1, 8,false,[.d (.v (.map none))],[],none,false,[],none⟩),
   (70, ⟨15, 208,true,[tzS, tzB, tzS, tzS, tzB, tzS, tzS, tzB, tzB, tzS, tzS, tzN, tzN, .d (.v (.int .i64 (0))),.d (.v (.map none))],[(0, 12),(12, 1),(13, 1),(14, 1)],none,false,[32, 34, 3, 69],none⟩),
   (71, ⟨15, 208,true,[tzS, tzB, tzS, tzS, tzB, tzS, tzS, tzB, tzB, tzS, tzS, tzN, tzN, .d (.v (.int .i64 (0))),.d (.v (.map none))],[(0, 12),(12, 1),(13, 1),(14, 1)],none,false,[32, 34, 3, 69],none⟩),
   (99, ⟨6, 112,true,[tzB, tzN, tzN, tzB, tzN, tzN],[(0, 3),(3, 3)],none,false,[52, 52],none⟩),
   (100, ⟨6, 112,true,[tzB, tzN, tzN, tzB, tzN, tzN],[(0, 3),(3, 3)],none,false,[52, 52],none⟩),
   (116, ⟨1, 16,false,[.d (.v (.nilIface))],[],none,false,[],none⟩),
   (125, ⟨12, 160,true,[tzB, tzS, tzS, tzB, tzS, tzS, tzB, tzS, tzS, tzB, tzS, tzS],[(0, 6),(6, 6)],none,false,[25, 25],none⟩),
   (130, ⟨1, 8,false,[.d (.v (.nilFunc))],[],none,false,[],none⟩),
   (138, ⟨12, 224,true,[tzB, tzN, tzN, tzB, tzN, tzN, tzB, tzN, tzN, tzB, tzN, tzN],[],none,false,[],some (2, 58)⟩),(145, ⟨1, 8,false,[.d (.v (.int .u64 (0)))],[],none,false,[],none⟩),
   (151, ⟨1, 4,false,[.d (.v (.int .u32 (0)))],[],none,false,[],none⟩),
   (152, ⟨1, 8,false,[.d (.v (.int .u64 (0)))],[],none,false,[],none⟩),
   (161, ⟨16, 224,true,[tzB, tzS, tzS, tzB, tzS, tzS, tzB, tzS, tzS, tzB, tzS, tzS, tzB, tzS, tzS, tzN],[(0, 16)],none,false,[56],none⟩),
   (162, ⟨16, 224,true,[tzB, tzS, tzS, tzB, tzS, tzS, tzB, tzS, tzS, tzB, tzS, tzS, tzB, tzS, tzS, tzN],[(0, 16)],none,false,[56],none⟩),
   (164, ⟨6, 80,true,[tzB, tzS, tzS, tzB, tzS, tzS],[(0, 3),(3, 3)],none,false,[23, 23],none⟩),
   (171, ⟨24, 320,true,[tzB, tzS, tzS, tzB, tzS, tzS, tzB, tzS, tzS, tzB, tzS, tzS, tzB, tzS, tzS, tzB, tzS, tzS, tzB, tzS, tzS, tzB, tzS, tzS],[(0, 6),(6, 6),(12, 6),(18, 6)],none,false,[165, 165, 165, 165],none⟩),
   (172, ⟨24, 320,true,[tzB, tzS, tzS, tzB, tzS, tzS, tzB, tzS, tzS, tzB, tzS, tzS, tzB, tzS, tzS, tzB, tzS, tzS, tzB, tzS, tzS, tzB, tzS, tzS],[(0, 6),(6, 6),(12, 6),(18, 6)],none,false,[165, 165, 165, 165],none⟩),
   (187, ⟨24, 448,true,[tzB, tzN, tzN, tzB, tzN, tzN, tzB, tzN, tzN, tzB, tzN, tzN, tzB, tzN, tzN, tzB, tzN, tzN, tzB, tzN, tzN, tzB, tzN, tzN],[(0, 6),(6, 6),(12, 6),(18, 6)],none,false,[58, 58, 58, 58],none⟩),
   (188, ⟨24, 448,true,[tzB, tzN, tzN, tzB, tzN, tzN, tzB, tzN, tzN, tzB, tzN, tzN, tzB, tzN, tzN, tzB, tzN, tzN, tzB, tzN, tzN, tzB, tzN, tzN],[(0, 6),(6, 6),(12, 6),(18, 6)],none,false,[58, 58, 58, 58],none⟩),
   (194, ⟨1, 8,false,[.d (.v (.int .i64 (0)))],[],none,false,[],none⟩),
   (227, ⟨12, 224,true,[tzB, tzN, tzN, tzB, tzN, tzN, tzB, tzN, tzN, tzB, tzN, tzN],[(0, 3),(3, 3),(6, 3),(9, 3)],none,false,[52, 52, 52, 52],none⟩),(228, ⟨12, 224,true,[tzB, tzN, tzN, tzB, tzN, tzN, tzB, tzN, tzN, tzB, tzN, tzN],[(0, 3),(3, 3),(6, 3),(9, 3)],none,false,[52, 52, 52, 52],none⟩),
   (235, ⟨1, 8,false,[.d (.v (.int .u64 (0)))],[],none,false,[],none⟩),
   (250, ⟨8, 8,true,[.d (.v (.int .u8 (0))),.d (.v (.int .u8 (0))),.d (.v (.int .u8 (0))),.d (.v (.int .u8 (0))),.d (.v (.int .u8 (0))),.d (.v (.int .u8 (0))),.d (.v (.int .u8 (0))),.d (.v (.int .u8 (0)))],[],none,false,[],some (8, 5)⟩),
   (287, ⟨2, 2,true,[.d (.v (.int .u8 (0))),.d (.v (.int .u8 (0)))],[(0, 1),(1, 1)],none,false,[5, 5],none⟩),
   (288, ⟨2, 2,true,[.d (.v (.int .u8 (0))),.d (.v (.int .u8 (0)))],[(0, 1),(1, 1)],none,false,[5, 5],none⟩)]
def TB0 : List (Nat × Ty) := (TB.drop 0).take 12
def TB1 : List (Nat × Ty) := (TB.drop 12).take 12
def TB2 : List (Nat × Ty) := (TB.drop 24).take 12
def TB3 : List (Nat × Ty) := (TB.drop 36).take 12
def TB4 : List (Nat × Ty) := (TB.drop 48).take 12
def TB5 : List (Nat × Ty) := (TB.drop 60).take 12
def TB6 : List (Nat × Ty) := (TB.drop 72).take 5
def TBall (P : Program) : List (Nat × Ty) -> Prop
  | [] => True
  | e :: r => tyOf P e.1 = some e.2 /\ TBall P r
set_option maxRecDepth 100000 in
theorem ZxT : TBall Tryz.prog TB0 :=
  ⟨ωr,ωr,ωr,ωr,ωr,ωr,ωr,ωr,ωr,ωr,ωr,ωr, trivial⟩
set_option maxRecDepth 100000 in
theorem ZxS : TBall Tryz.prog TB1 :=
  ⟨ωr,ωr,ωr,ωr,ωr,ωr,ωr,ωr,ωr,ωr,ωr,ωr, trivial⟩
set_option maxRecDepth 100000 in
theorem ZxR : TBall Tryz.prog TB2 :=
  ⟨ωr,ωr,ωr,ωr,ωr,ωr,ωr,ωr,ωr,ωr,ωr,ωr, trivial⟩
set_option maxRecDepth 100000 in
theorem ZxQ : TBall Tryz.prog TB3 :=
  ⟨ωr,ωr,ωr,ωr,ωr,ωr,ωr,ωr,ωr,ωr,ωr,ωr, trivial⟩
set_option maxRecDepth 100000 in
theorem ZxP : TBall Tryz.prog TB4 :=
  ⟨ωr,ωr,ωr,ωr,ωr,ωr,ωr,ωr,ωr,ωr,ωr,ωr, trivial⟩
set_option maxRecDepth 100000 in
theorem ZxO : TBall Tryz.prog TB5 :=
  ⟨ωr,ωr,ωr,ωr,ωr,ωr,ωr,ωr,ωr,ωr,ωr,ωr, trivial⟩
set_option maxRecDepth 100000 in
theorem ZxN : TBall Tryz.prog TB6 :=
  ⟨ωr,ωr,ωr,ωr,ωr, trivial⟩
theorem TBall.mem {P : Program} {L : List (Nat × Ty)} (h : TBall P L) {e : Nat × Ty} (he : e ∈ L) : tyOf P e.1 = some e.2 := by
  induction L with
  | nil => simp at he
  | cons x r ih =>
    rcases List.mem_cons.1 he with rfl | he
    · exact h.1
    · exact ih h.2 he
set_option maxRecDepth 100000 in
theorem ZzA : TB = TB0 ++ TB1 ++ TB2 ++ TB3 ++ TB4 ++ TB5 ++ TB6 := ωr
theorem Zji : TBok Tryz.prog TB := by
  intro t ty h
  rw [ZzA] at h
  simp only [List.mem_append] at h
  rcases h with (((((h | h) | h) | h) | h) | h) | h
  · exact TBall.mem (e := (t, ty)) ZxT h
  · exact TBall.mem (e := (t, ty)) ZxS h
  · exact TBall.mem (e := (t, ty)) ZxR h
  · exact TBall.mem (e := (t, ty)) ZxQ h
  · exact TBall.mem (e := (t, ty)) ZxP h
  · exact TBall.mem (e := (t, ty)) ZxO h
  · exact TBall.mem (e := (t, ty)) ZxN h
def prmOf (P : Program) (nt : Nat) : Prm := ⟨P, Tab, TB, ⟨nt,[],false⟩,[]⟩
def prmOwn (P : Program) (nt : Nat) (own : List Nat) : Prm := ⟨P, Tab, TB, ⟨nt,[],false⟩, own⟩
def prmL (P : Program) (nt i : Nat) (own : List Nat) : Prm := ⟨P, Tab, TB, ⟨nt,[i],false⟩, own⟩
theorem mixed : Tryz.prog.follows .mixedOrders = true := ωr
