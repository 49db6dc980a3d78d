/- The engine at this program: the table of its types, and that it is the program's. Printed by wip/gen_tb.py. -/
import Derived.Test.YtgkofgfiifgioaaGreatDoorQEng
import Derived.Test.YtgkofgfiifgioaaGreatDoorQSeg
namespace Go.Proofs.YtgkofgfiifgioaaGreatDoor.eng
open Go.RowKit mem seg
abbrev tzB : C := .d (.v (.bool false))
abbrev tzS : C := .d (.v (.string ⟨#[]⟩))
abbrev tzN : C := .d (.v (.slice none 0 0))
def TB : List (Nat × Ty) := [(25, ⟨3, 40,true,[tzB, tzS, tzS],[(0, 1),(1, 1),(2, 1)],none,false,[4, 9, 9],none⟩),
   (33, ⟨1, 8,false,[.d (.v (.int .i64 (0)))],[],none,false,[],none⟩),
   (40, ⟨6, 80,true,[tzB, tzS, tzS, tzB, tzS, tzS],[(0, 3),(3, 3)],none,false,[25, 25],none⟩),
   (44, ⟨4, 48,true,[tzB, tzB, tzS, tzS],[(0, 1),(1, 3)],none,false,[4, 25],none⟩),
   (53, ⟨6, 80,true,[tzB, tzS, tzS, tzB, tzS, tzS],[(0, 3),(3, 3)],none,false,[25, 25],none⟩),
   (55, ⟨10, 128,true,[tzB, tzS, tzS, tzB, tzS, tzS, tzB, tzB, tzS, tzS],[(0, 6),(6, 4)],none,false,[53, 44],none⟩),
   (58, ⟨12, 168,true,[tzS, tzB, tzS, tzS, tzB, tzS, tzS, tzB, tzB, tzS, tzS, tzN],[(0, 1),(1, 10),(11, 1)],none,false,[9, 55, 56],none⟩),
   (77, ⟨12, 160,true,[tzB, tzS, tzS, tzB, tzS, tzS, tzB, tzS, tzS, tzB, tzS, tzS],[(0, 6),(6, 6)],none,false,[53, 53],none⟩),
   (110, ⟨16, 224,true,[tzB, tzS, tzS, tzB, tzS, tzS, tzB, tzS, tzS, tzB, tzS, tzS, tzB, tzS, tzS, tzN],[(0, 3),(3, 3),(6, 3),(9, 3),(12, 3),(15, 1)],none,false,[25, 25, 25, 25, 25, 70],none⟩),
   (148, ⟨2, 16,true,[.d (.v (.int .i64 (0))),.d (.v (.int .i64 (0)))],[(0, 1),(1, 1)],none,false,[3, 3],none⟩),
   (22, ⟨1, 24,false,[tzN],[],some 3,false,[],none⟩),
   (27, ⟨1, 24,false,[tzN],[],some 25,false,[],none⟩),(32, ⟨1, 24,false,[tzN],[],some 40,false,[],none⟩),
   (56, ⟨1, 24,false,[tzN],[],some 110,false,[],none⟩),
   (59, ⟨1, 24,false,[tzN],[],some 70,false,[],none⟩),
   (62, ⟨1, 24,false,[tzN],[],some 27,false,[],none⟩),
   (70, ⟨1, 24,false,[tzN],[],some 53,false,[],none⟩),
   (73, ⟨1, 24,false,[tzN],[],some 148,false,[],none⟩),
   (104, ⟨1, 24,false,[tzN],[],some 158,false,[],none⟩),
   (129, ⟨1, 24,false,[tzN],[],some 22,false,[],none⟩),
   (134, ⟨1, 24,false,[tzN],[],some 129,false,[],none⟩),
   (181, ⟨1, 24,false,[tzN],[],some 184,false,[],none⟩),
   (190, ⟨1, 24,false,[tzN],[],some 194,false,[],none⟩),
   (195, ⟨1, 24,false,[tzN],[],some 32,false,[],none⟩),(198, ⟨1, 24,false,[tzN],[],some 77,false,[],none⟩),
   (210, ⟨1, 24,false,[tzN],[],some 212,false,[],none⟩),
   (214, ⟨1, 24,false,[tzN],[],some 181,false,[],none⟩),
   (224, ⟨1, 24,false,[tzN],[],some 5,false,[],none⟩),
   (245, ⟨1, 24,false,[tzN],[],some 251,false,[],none⟩),
   (256, ⟨1, 24,false,[tzN],[],some 107,false,[],none⟩),
   (260, ⟨1, 24,false,[tzN],[],some 263,false,[],none⟩),
   (274, ⟨1, 24,false,[tzN],[],some 72,false,[],none⟩),
   (2, ⟨1, 8,false,[.d (.v (.int .i64 (0)))],[],none,false,[],none⟩),
   (3, ⟨1, 8,false,[.d (.v (.int .i64 (0)))],[],none,false,[],none⟩),
   (4, ⟨1, 1,false,[tzB],[],none,false,[],none⟩),
   (5, ⟨1, 1,false,[.d (.v (.int .u8 (0)))],[],none,false,[],none⟩),(7, ⟨4, 24,true,[.d (.v (.int .i64 (0))),.d (.v (.int .i64 (0))), tzB, .d (.v (.int .u8 (0)))],[(0, 1),(1, 1),(2, 1),(3, 1)],none,false,[2, 3, 4, 6],none⟩),
   (9, ⟨1, 16,false,[tzS],[],none,true,[],none⟩),
   (12, ⟨1, 8,false,[.d (.v (.int .u64 (0)))],[],none,false,[],none⟩),
   (13, ⟨2, 24,true,[tzS, .d (.v (.int .u64 (0)))],[(0, 1),(1, 1)],none,false,[9, 12],none⟩),
   (21, ⟨1, 4,false,[.d (.v (.int .i32 (0)))],[],none,false,[],none⟩),
   (24, ⟨3, 40,true,[tzB, tzS, tzS],[(0, 1),(1, 1),(2, 1)],none,false,[4, 9, 9],none⟩),
   (39, ⟨6, 80,true,[tzB, tzS, tzS, tzB, tzS, tzS],[(0, 3),(3, 3)],none,false,[25, 25],none⟩),
   (43, ⟨4, 48,true,[tzB, tzB, tzS, tzS],[(0, 1),(1, 3)],none,false,[4, 25],none⟩),
   (52, ⟨6, 80,true,[tzB, tzS, tzS, tzB, tzS, tzS],[(0, 3),(3, 3)],none,false,[25, 25],none⟩),
   (54, ⟨10, 128,true,[tzB, tzS, tzS, tzB, tzS, tzS, tzB, tzB, tzS, tzS],[(0, 6),(6, 4)],none,false,[53, 44],none⟩),
   (57, ⟨12, 168,true,[tzS, tzB, tzS, tzS, tzB, tzS, tzS, tzB, tzB, tzS, tzS, tzN],[(0, 1),(1, 10),(11, 1)],none,false,[9, 55, 56],none⟩),
   (72, ⟨1, 8,false,[.d (.v (.int .u64 (0)))],[],none,false,[],none⟩),(76, ⟨12, 160,true,[tzB, tzS, tzS, tzB, tzS, tzS, tzB, tzS, tzS, tzB, tzS, tzS],[(0, 6),(6, 6)],none,false,[53, 53],none⟩),
   (90, ⟨1, 8,false,[.d (.v (.int .u64 (0)))],[],none,false,[],none⟩),
   (92, ⟨1, 24,false,[tzN],[],some 27,false,[],none⟩),
   (105, ⟨1, 24,false,[tzN],[],some 158,false,[],none⟩),
   (106, ⟨3, 56,true,[tzB, tzN, tzN],[(0, 1),(1, 1),(2, 1)],none,false,[4, 105, 105],none⟩),
   (107, ⟨3, 56,true,[tzB, tzN, tzN],[(0, 1),(1, 1),(2, 1)],none,false,[4, 105, 105],none⟩),
   (109, ⟨16, 224,true,[tzB, tzS, tzS, tzB, tzS, tzS, tzB, tzS, tzS, tzB, tzS, tzS, tzB, tzS, tzS, tzN],[(0, 3),(3, 3),(6, 3),(9, 3),(12, 3),(15, 1)],none,false,[25, 25, 25, 25, 25, 70],none⟩),
   (111, ⟨6, 112,true,[tzB, tzN, tzN, tzB, tzN, tzN],[(0, 3),(3, 3)],none,false,[107, 107],none⟩),
   (112, ⟨6, 112,true,[tzB, tzN, tzN, tzB, tzN, tzN],[(0, 3),(3, 3)],none,false,[107, 107],none⟩),
   (143, ⟨1, 8,false,[.d (.v (.nilFunc))],[],none,false,[],none⟩),
   (147, ⟨2, 16,true,[.d (.v (.int .i64 (0))),.d (.v (.int .i64 (0)))],[(0, 1),(1, 1)],none,false,[3, 3],none⟩),
   (158, ⟨1, 4,false,[.d (.v (.int .u32 (0)))],[],none,false,[],none⟩),(164, ⟨1, 8,false,[.d (.v (.int .i64 (0)))],[],none,false,[],none⟩),
   (183, ⟨6, 112,true,[tzB, tzN, tzN, tzB, tzN, tzN],[(0, 3),(3, 3)],none,false,[107, 107],none⟩),
   (184, ⟨6, 112,true,[tzB, tzN, tzN, tzB, tzN, tzN],[(0, 3),(3, 3)],none,false,[107, 107],none⟩),
   (194, ⟨1, 16,false,[.d (.v (.nilIface))],[],none,false,[],none⟩),
   (204, ⟨1, 8,false,[.d (.v (.nilFunc))],[],none,false,[],none⟩),
   (212, ⟨12, 224,true,[tzB, tzN, tzN, tzB, tzN, tzN, tzB, tzN, tzN, tzB, tzN, tzN],[],none,false,[],some (2, 112)⟩),
   (223, ⟨8, 8,true,[.d (.v (.int .u8 (0))),.d (.v (.int .u8 (0))),.d (.v (.int .u8 (0))),.d (.v (.int .u8 (0))),.d (.v (.int .u8 (0))),.d (.v (.int .u8 (0))),.d (.v (.int .u8 (0))),.d (.v (.int .u8 (0)))],[],none,false,[],some (8, 5)⟩),
   (227, ⟨1, 8,false,[.d (.v (.int .u64 (0)))],[],none,false,[],none⟩),
   (242, ⟨16, 224,true,[tzB, tzS, tzS, tzB, tzS, tzS, tzB, tzS, tzS, tzB, tzS, tzS, tzB, tzS, tzS, tzN],[(0, 16)],none,false,[110],none⟩),
   (243, ⟨16, 224,true,[tzB, tzS, tzS, tzB, tzS, tzS, tzB, tzS, tzS, tzB, tzS, tzS, tzB, tzS, tzS, tzN],[(0, 16)],none,false,[110],none⟩),
   (250, ⟨24, 320,true,[tzB, tzS, tzS, tzB, tzS, tzS, tzB, tzS, tzS, tzB, tzS, tzS, tzB, tzS, tzS, tzB, tzS, tzS, tzB, tzS, tzS, tzB, tzS, tzS],[(0, 6),(6, 6),(12, 6),(18, 6)],none,false,[40, 40, 40, 40],none⟩),
   (251, ⟨24, 320,true,[tzB, tzS, tzS, tzB, tzS, tzS, tzB, tzS, tzS, tzB, tzS, tzS, tzB, tzS, tzS, tzB, tzS, tzS, tzB, tzS, tzS, tzB, tzS, tzS],[(0, 6),(6, 6),(12, 6),(18, 6)],none,false,[40, 40, 40, 40],none⟩),(262, ⟨24, 448,true,[tzB, tzN, tzN, tzB, tzN, tzN, tzB, tzN, tzN, tzB, tzN, tzN, tzB, tzN, tzN, tzB, tzN, tzN, tzB, tzN, tzN, tzB, tzN, tzN],[(0, 6),(6, 6),(12, 6),(18, 6)],none,false,[112, 112, 112, 112],none⟩),
   (263, ⟨24, 448,true,[tzB, tzN, tzN, tzB, tzN, tzN, tzB, tzN, tzN, tzB, tzN, tzN, tzB, tzN, tzN, tzB, tzN, tzN, tzB, tzN, tzN, tzB, tzN, tzN],[(0, 6),(6, 6),(12, 6),(18, 6)],none,false,[112, 112, 112, 112],none⟩),
   (294, ⟨12, 224,true,[tzB, tzN, tzN, tzB, tzN, tzN, tzB, tzN, tzN, tzB, tzN, tzN],[(0, 3),(3, 3),(6, 3),(9, 3)],none,false,[107, 107, 107, 107],none⟩),
   (295, ⟨12, 224,true,[tzB, tzN, tzN, tzB, tzN, tzN, tzB, tzN, tzN, tzB, tzN, tzN],[(0, 3),(3, 3),(6, 3),(9, 3)],none,false,[107, 107, 107, 107],none⟩),
   (326, ⟨2, 2,true,[.d (.v (.int .u8 (0))),.d (.v (.int .u8 (0)))],[(0, 1),(1, 1)],none,false,[5, 5],none⟩),
   (327, ⟨2, 2,true,[.d (.v (.int .u8 (0))),.d (.v (.int .u8 (0)))],[(0, 1),(1, 1)],none,false,[5, 5],none⟩)]
def TB0 : List (Nat × Ty) := (TB.drop 0).take 12
def TB1 : List (Nat × Ty) := (TB.drop 12).take 12
def TB2 : List (Nat × Ty) := (TB.drop 24).take 12
def TB3 : List (Nat × Ty) := (TB.drop 36).take 12
def TB4 : List (Nat × Ty) := (TB.drop 48).take 12
def TB5 : List (Nat × Ty) := (TB.drop 60).take 12
def TB6 : List (Nat × Ty) := (TB.drop 72).take 6
def TBall (P : Program) : List (Nat × Ty) → Prop
  | [] => True
  | e :: r => tyOf P e.1 = some e.2 ∧ TBall P r
set_option maxRecDepth 100000 in
theorem Zrl : TBall Tryz.prog TB0 :=
  ⟨ωr,ωr,ωr,ωr,ωr,ωr,ωr,ωr,ωr,ωr,ωr,ωr, trivial⟩
set_option maxRecDepth 100000 in
theorem Zrk : TBall Tryz.prog TB1 :=
  ⟨ωr,ωr,ωr,ωr,ωr,ωr,ωr,ωr,ωr,ωr,ωr,ωr, trivial⟩
set_option maxRecDepth 100000 in
theorem Zrj : TBall Tryz.prog TB2 :=
  ⟨ωr,ωr,ωr,ωr,ωr,ωr,ωr,ωr,ωr,ωr,ωr,ωr, trivial⟩
set_option maxRecDepth 100000 in
theorem Zri : TBall Tryz.prog TB3 :=
  ⟨ωr,ωr,ωr,ωr,ωr,ωr,ωr,ωr,ωr,ωr,ωr,ωr, trivial⟩
set_option maxRecDepth 100000 in
theorem Zrh : TBall Tryz.prog TB4 :=
  ⟨ωr,ωr,ωr,ωr,ωr,ωr,ωr,ωr,ωr,ωr,ωr,ωr, trivial⟩
set_option maxRecDepth 100000 in
theorem Zrg : TBall Tryz.prog TB5 :=
  ⟨ωr,ωr,ωr,ωr,ωr,ωr,ωr,ωr,ωr,ωr,ωr,ωr, trivial⟩
set_option maxRecDepth 100000 in
theorem Zrf : TBall Tryz.prog TB6 :=
  ⟨ωr,ωr,ωr,ωr,ωr,ωr, trivial⟩
theorem TBall.mem {P : Program} {L : List (Nat × Ty)} (h : TBall P L) {e : Nat × Ty} (he : e ∈ L) : tyOf P e.1 = some e.2 := by
  induction L with
  | nil => simp at he
  | cons x r ih =>
    rcases List.mem_cons.1 he with rfl | he
    · exact h.1
    · exact ih h.2 he
set_option maxRecDepth 100000 in
theorem Zs8 : TB = TB0 ++ TB1 ++ TB2 ++ TB3 ++ TB4 ++ TB5 ++ TB6 := ωr
theorem Zgz : TBok Tryz.prog TB := by
  intro t ty h
  rw [Zs8] at h
  simp only [List.mem_append] at h
  rcases h with (((((h | h) | h) | h) | h) | h) | h
  · exact TBall.mem (e := (t, ty)) Zrl h
  · exact TBall.mem (e := (t, ty)) Zrk h
  · exact TBall.mem (e := (t, ty)) Zrj h
  · exact TBall.mem (e := (t, ty)) Zri h
  · exact TBall.mem (e := (t, ty)) Zrh h
  · exact TBall.mem (e := (t, ty)) Zrg h
  · exact TBall.mem (e := (t, ty)) Zrf h
def prmOf (P : Program) (nt : Nat) : Prm := ⟨P, Tab, TB, ⟨nt,[],false⟩,[]⟩
def prmOwn (P : Program) (nt : Nat) (own : List Nat) : Prm := ⟨P, Tab, TB, ⟨nt,[],false⟩, own⟩
def prmL (P : Program) (nt i : Nat) (own : List Nat) : Prm := ⟨P, Tab, TB, ⟨nt,[i],false⟩, own⟩
theorem mixed : Tryz.prog.follows .mixedOrders = true := ωr
