/- The engine at this program: the table of its types, and that it is the program's. Printed by wip/gen_tb.py. -/
import Derived.Test.YtgmkgfdjolchdaaGreatDoorQEng
import Derived.Test.YtgmkgfdjolchdaaGreatDoorQSeg
namespace Go.Proofs.YtgmkgfdjolchdaaGreatDoor.eng
open Go.RowKit mem seg
abbrev tzB : C := .d (.v (.bool false))
abbrev tzS : C := .d (.v (.string ⟨#[]⟩))
abbrev tzN : C := .d (.v (.slice none 0 0))
def TB : List (Nat × Ty) := [(25, ⟨3, 40,true,[tzB, tzS, tzS],[(0, 1),(1, 1),(2, 1)],none,false,[4, 9, 9],none⟩),
   (27, ⟨6, 80,true,[tzB, tzS, tzS, tzB, tzS, tzS],[(0, 3),(3, 3)],none,false,[25, 25],none⟩),
   (29, ⟨4, 48,true,[tzB, tzB, tzS, tzS],[(0, 1),(1, 3)],none,false,[4, 25],none⟩),
   (31, ⟨10, 128,true,[tzB, tzS, tzS, tzB, tzS, tzS, tzB, tzB, tzS, tzS],[(0, 6),(6, 4)],none,false,[27, 29],none⟩),
   (34, ⟨12, 168,true,[tzS, tzB, tzS, tzS, tzB, tzS, tzS, tzB, tzB, tzS, tzS, tzN],[(0, 1),(1, 10),(11, 1)],none,false,[9, 31, 32],none⟩),
   (39, ⟨1, 24,false,[tzN],[],some 50,false,[],none⟩),
   (40, ⟨1, 8,false,[.d (.v (.int .i64 (0)))],[],none,false,[],none⟩),
   (50, ⟨2, 32,true,[.d (.v (.int .i64 (0))), tzN],[(0, 1),(1, 1)],none,false,[3, 36],none⟩),
   (60, ⟨12, 160,true,[tzB, tzS, tzS, tzB, tzS, tzS, tzB, tzS, tzS, tzB, tzS, tzS],[(0, 6),(6, 6)],none,false,[27, 27],none⟩),
   (71, ⟨16, 224,true,[tzB, tzS, tzS, tzB, tzS, tzS, tzB, tzS, tzS, tzB, tzS, tzS, tzB, tzS, tzS, tzN],[(0, 3),(3, 3),(6, 3),(9, 3),(12, 3),(15, 1)],none,false,[25, 25, 25, 25, 25, 58],none⟩),
   (87, ⟨6, 80,true,[tzB, tzS, tzS, tzB, tzS, tzS],[(0, 3),(3, 3)],none,false,[25, 25],none⟩),
   (110, ⟨2, 16,true,[.d (.v (.int .i64 (0))),.d (.v (.int .i64 (0)))],[(0, 1),(1, 1)],none,false,[3, 3],none⟩),(22, ⟨1, 24,false,[tzN],[],some 3,false,[],none⟩),
   (32, ⟨1, 24,false,[tzN],[],some 71,false,[],none⟩),
   (36, ⟨1, 24,false,[tzN],[],some 25,false,[],none⟩),
   (38, ⟨1, 24,false,[tzN],[],some 50,false,[],none⟩),
   (43, ⟨1, 24,false,[tzN],[],some 36,false,[],none⟩),
   (44, ⟨1, 24,false,[tzN],[],some 54,false,[],none⟩),
   (51, ⟨1, 24,false,[tzN],[],some 60,false,[],none⟩),
   (54, ⟨1, 24,false,[tzN],[],some 87,false,[],none⟩),
   (55, ⟨1, 24,false,[tzN],[],some 58,false,[],none⟩),
   (58, ⟨1, 24,false,[tzN],[],some 27,false,[],none⟩),
   (63, ⟨1, 24,false,[tzN],[],some 110,false,[],none⟩),
   (91, ⟨1, 24,false,[tzN],[],some 97,false,[],none⟩),(100, ⟨1, 24,false,[tzN],[],some 31,false,[],none⟩),
   (116, ⟨1, 24,false,[tzN],[],some 123,false,[],none⟩),
   (125, ⟨1, 24,false,[tzN],[],some 9,false,[],none⟩),
   (150, ⟨1, 24,false,[tzN],[],some 63,false,[],none⟩),
   (165, ⟨1, 24,false,[tzN],[],some 5,false,[],none⟩),
   (173, ⟨1, 24,false,[tzN],[],some 175,false,[],none⟩),
   (222, ⟨1, 24,false,[tzN],[],some 170,false,[],none⟩),
   (2, ⟨1, 8,false,[.d (.v (.int .i64 (0)))],[],none,false,[],none⟩),
   (3, ⟨1, 8,false,[.d (.v (.int .i64 (0)))],[],none,false,[],none⟩),
   (4, ⟨1, 1,false,[tzB],[],none,false,[],none⟩),
   (5, ⟨1, 1,false,[.d (.v (.int .u8 (0)))],[],none,false,[],none⟩),
   (7, ⟨4, 24,true,[.d (.v (.int .i64 (0))),.d (.v (.int .i64 (0))), tzB, .d (.v (.int .u8 (0)))],[(0, 1),(1, 1),(2, 1),(3, 1)],none,false,[2, 3, 4, 6],none⟩),(9, ⟨1, 16,false,[tzS],[],none,true,[],none⟩),
   (12, ⟨1, 8,false,[.d (.v (.int .u64 (0)))],[],none,false,[],none⟩),
   (13, ⟨2, 24,true,[tzS, .d (.v (.int .u64 (0)))],[(0, 1),(1, 1)],none,false,[9, 12],none⟩),
   (21, ⟨1, 4,false,[.d (.v (.int .i32 (0)))],[],none,false,[],none⟩),
   (24, ⟨3, 40,true,[tzB, tzS, tzS],[(0, 1),(1, 1),(2, 1)],none,false,[4, 9, 9],none⟩),
   (26, ⟨6, 80,true,[tzB, tzS, tzS, tzB, tzS, tzS],[(0, 3),(3, 3)],none,false,[25, 25],none⟩),
   (28, ⟨4, 48,true,[tzB, tzB, tzS, tzS],[(0, 1),(1, 3)],none,false,[4, 25],none⟩),
   (30, ⟨10, 128,true,[tzB, tzS, tzS, tzB, tzS, tzS, tzB, tzB, tzS, tzS],[(0, 6),(6, 4)],none,false,[27, 29],none⟩),
   (33, ⟨12, 168,true,[tzS, tzB, tzS, tzS, tzB, tzS, tzS, tzB, tzB, tzS, tzS, tzN],[(0, 1),(1, 10),(11, 1)],none,false,[9, 31, 32],none⟩),
   (49, ⟨2, 32,true,[.d (.v (.int .i64 (0))), tzN],[(0, 1),(1, 1)],none,false,[3, 36],none⟩),
   (59, ⟨12, 160,true,[tzB, tzS, tzS, tzB, tzS, tzS, tzB, tzS, tzS, tzB, tzS, tzS],[(0, 6),(6, 6)],none,false,[27, 27],none⟩),
   (70, ⟨16, 224,true,[tzB, tzS, tzS, tzB, tzS, tzS, tzB, tzS, tzS, tzB, tzS, tzS, tzB, tzS, tzS, tzN],[(0, 3),(3, 3),(6, 3),(9, 3),(12, 3),(15, 1)],none,false,[25, 25, 25, 25, 25, 58],none⟩),(77, ⟨1, 24,true,[tzN],[(0, 1)],none,false,[22],none⟩),
   (78, ⟨1, 24,true,[tzN],[(0, 1)],none,false,[22],none⟩),
   (86, ⟨6, 80,true,[tzB, tzS, tzS, tzB, tzS, tzS],[(0, 3),(3, 3)],none,false,[25, 25],none⟩),
   (96, ⟨24, 320,true,[tzB, tzS, tzS, tzB, tzS, tzS, tzB, tzS, tzS, tzB, tzS, tzS, tzB, tzS, tzS, tzB, tzS, tzS, tzB, tzS, tzS, tzB, tzS, tzS],[(0, 6),(6, 6),(12, 6),(18, 6)],none,false,[87, 87, 87, 87],none⟩),
   (97, ⟨24, 320,true,[tzB, tzS, tzS, tzB, tzS, tzS, tzB, tzS, tzS, tzB, tzS, tzS, tzB, tzS, tzS, tzB, tzS, tzS, tzB, tzS, tzS, tzB, tzS, tzS],[(0, 6),(6, 6),(12, 6),(18, 6)],none,false,[87, 87, 87, 87],none⟩),
   (109, ⟨2, 16,true,[.d (.v (.int .i64 (0))),.d (.v (.int .i64 (0)))],[(0, 1),(1, 1)],none,false,[3, 3],none⟩),
   (114, ⟨1, 8,false,[.d (.v (.nilFunc))],[],none,false,[],none⟩),
   (120, ⟨7, 104,true,[tzN, tzB, tzS, tzS, tzB, tzS, tzS],[(0, 1),(1, 6)],none,false,[36, 87],none⟩),
   (121, ⟨7, 104,true,[tzN, tzB, tzS, tzS, tzB, tzS, tzS],[(0, 1),(1, 6)],none,false,[36, 87],none⟩),
   (122, ⟨14, 208,true,[tzN, tzB, tzS, tzS, tzB, tzS, tzS, tzN, tzB, tzS, tzS, tzB, tzS, tzS],[(0, 7),(7, 7)],none,false,[121, 121],none⟩),
   (123, ⟨14, 208,true,[tzN, tzB, tzS, tzS, tzB, tzS, tzS, tzN, tzB, tzS, tzS, tzB, tzS, tzS],[(0, 7),(7, 7)],none,false,[121, 121],none⟩),
   (170, ⟨1, 8,false,[.d (.v (.int .u64 (0)))],[],none,false,[],none⟩),(175, ⟨1, 4,false,[.d (.v (.int .u32 (0)))],[],none,false,[],none⟩),
   (176, ⟨1, 8,false,[.d (.v (.int .u64 (0)))],[],none,false,[],none⟩),
   (195, ⟨1, 24,false,[tzN],[],some 36,false,[],none⟩),
   (203, ⟨8, 8,true,[.d (.v (.int .u8 (0))),.d (.v (.int .u8 (0))),.d (.v (.int .u8 (0))),.d (.v (.int .u8 (0))),.d (.v (.int .u8 (0))),.d (.v (.int .u8 (0))),.d (.v (.int .u8 (0))),.d (.v (.int .u8 (0)))],[],none,false,[],some (8, 5)⟩),
   (208, ⟨1, 8,false,[.d (.v (.int .i64 (0)))],[],none,false,[],none⟩),
   (230, ⟨1, 8,false,[.d (.v (.int .u64 (0)))],[],none,false,[],none⟩)]
def TB0 : List (Nat × Ty) := (TB.drop 0).take 12
def TB1 : List (Nat × Ty) := (TB.drop 12).take 12
def TB2 : List (Nat × Ty) := (TB.drop 24).take 12
def TB3 : List (Nat × Ty) := (TB.drop 36).take 12
def TB4 : List (Nat × Ty) := (TB.drop 48).take 12
def TB5 : List (Nat × Ty) := (TB.drop 60).take 6
def TBall (P : Program) : List (Nat × Ty) → Prop
  | [] => True
  | e :: r => tyOf P e.1 = some e.2 ∧ TBall P r
set_option maxRecDepth 100000 in
theorem Zuc : TBall Tryz.prog TB0 :=
  ⟨ωr,ωr,ωr,ωr,ωr,ωr,ωr,ωr,ωr,ωr,ωr,ωr, trivial⟩
set_option maxRecDepth 100000 in
theorem Zub : TBall Tryz.prog TB1 :=
  ⟨ωr,ωr,ωr,ωr,ωr,ωr,ωr,ωr,ωr,ωr,ωr,ωr, trivial⟩
set_option maxRecDepth 100000 in
theorem Zua : TBall Tryz.prog TB2 :=
  ⟨ωr,ωr,ωr,ωr,ωr,ωr,ωr,ωr,ωr,ωr,ωr,ωr, trivial⟩
set_option maxRecDepth 100000 in
theorem Zt9 : TBall Tryz.prog TB3 :=
  ⟨ωr,ωr,ωr,ωr,ωr,ωr,ωr,ωr,ωr,ωr,ωr,ωr, trivial⟩
set_option maxRecDepth 100000 in
theorem Zt8 : TBall Tryz.prog TB4 :=
  ⟨ωr,ωr,ωr,ωr,ωr,ωr,ωr,ωr,ωr,ωr,ωr,ωr, trivial⟩
set_option maxRecDepth 100000 in
theorem Zt7 : TBall Tryz.prog TB5 :=
  ⟨ωr,ωr,ωr,ωr,ωr,ωr, trivial⟩
theorem TBall.mem {P : Program} {L : List (Nat × Ty)} (h : TBall P L) {e : Nat × Ty} (he : e ∈ L) : tyOf P e.1 = some e.2 := by
  induction L with
  | nil => simp at he
  | cons x r ih =>
    rcases List.mem_cons.1 he with rfl | he
    · exact h.1
    · exact ih h.2 he
set_option maxRecDepth 100000 in
theorem ZvT : TB = TB0 ++ TB1 ++ TB2 ++ TB3 ++ TB4 ++ TB5 := ωr
theorem ZhY : TBok Tryz.prog TB := by
  intro t ty h
  rw [ZvT] at h
  simp only [List.mem_append] at h
  rcases h with ((((h | h) | h) | h) | h) | h
  · exact TBall.mem (e := (t, ty)) Zuc h
  · exact TBall.mem (e := (t, ty)) Zub h
  · exact TBall.mem (e := (t, ty)) Zua h
  · exact TBall.mem (e := (t, ty)) Zt9 h
  · exact TBall.mem (e := (t, ty)) Zt8 h
  · exact TBall.mem (e := (t, ty)) Zt7 h
def prmOf (P : Program) (nt : Nat) : Prm := ⟨P, Tab, TB, ⟨nt,[],false⟩,[]⟩
def prmOwn (P : Program) (nt : Nat) (own : List Nat) : Prm := ⟨P, Tab, TB, ⟨nt,[],false⟩, own⟩
def prmL (P : Program) (nt i : Nat) (own : List Nat) : Prm := ⟨P, Tab, TB, ⟨nt,[i],false⟩, own⟩
theorem mixed : Tryz.prog.follows .mixedOrders = true := ωr
