/- The engine at this program: the table of its types, and that it is the program's. Printed by wip/gen_tb.py. -/
import Derived.Test.YtpfhmelgcdgoeaaGreatDoorQEng
import Derived.Test.YtpfhmelgcdgoeaaGreatDoorQSeg
namespace Go.Proofs.YtpfhmelgcdgoeaaGreatDoor.eng
open Go.RowKit mem seg
abbrev tzB : C := .d (.v (.bool false))
abbrev tzS : C := .d (.v (.string ⟨#[]⟩))
abbrev tzN : C := .d (.v (.slice none 0 0))
def TB : List (Nat × Ty) := [(25, ⟨3, 40,true,[tzB, tzS, tzS],[(0, 1),(1, 1),(2, 1)],none,false,[4, 9, 9],none⟩),
   (27, ⟨6, 80,true,[tzB, tzS, tzS, tzB, tzS, tzS],[(0, 3),(3, 3)],none,false,[25, 25],none⟩),
   (29, ⟨4, 48,true,[tzB, tzB, tzS, tzS],[(0, 1),(1, 3)],none,false,[4, 25],none⟩),
   (31, ⟨10, 128,true,[tzB, tzS, tzS, tzB, tzS, tzS, tzB, tzB, tzS, tzS],[(0, 6),(6, 4)],none,false,[27, 29],none⟩),
   (34, ⟨12, 168,true,[tzS, tzB, tzS, tzS, tzB, tzS, tzS, tzB, tzB, tzS, tzS, tzN],[(0, 1),(1, 10),(11, 1)],none,false,[9, 31, 32],none⟩),
   (43, ⟨1, 8,false,[.d (.v (.int .i64 (0)))],[],none,false,[],none⟩),
   (53, ⟨1, 24,false,[tzN],[],some 58,false,[],none⟩),
   (58, ⟨2, 32,true,[.d (.v (.int .i64 (0))), tzN],[(0, 1),(1, 1)],none,false,[3, 41],none⟩),
   (64, ⟨16, 224,true,[tzB, tzS, tzS, tzB, tzS, tzS, tzB, tzS, tzS, tzB, tzS, tzS, tzB, tzS, tzS, tzN],[(0, 3),(3, 3),(6, 3),(9, 3),(12, 3),(15, 1)],none,false,[25, 25, 25, 25, 25, 62],none⟩),
   (98, ⟨6, 80,true,[tzB, tzS, tzS, tzB, tzS, tzS],[(0, 3),(3, 3)],none,false,[25, 25],none⟩),
   (115, ⟨12, 160,true,[tzB, tzS, tzS, tzB, tzS, tzS, tzB, tzS, tzS, tzB, tzS, tzS],[(0, 6),(6, 6)],none,false,[27, 27],none⟩),
   (22, ⟨1, 24,false,[tzN],[],some 3,false,[],none⟩),(32, ⟨1, 24,false,[tzN],[],some 64,false,[],none⟩),
   (39, ⟨1, 24,false,[tzN],[],some 41,false,[],none⟩),
   (41, ⟨1, 24,false,[tzN],[],some 25,false,[],none⟩),
   (46, ⟨1, 24,false,[tzN],[],some 62,false,[],none⟩),
   (52, ⟨1, 24,false,[tzN],[],some 58,false,[],none⟩),
   (62, ⟨1, 24,false,[tzN],[],some 27,false,[],none⟩),
   (67, ⟨1, 24,false,[tzN],[],some 104,false,[],none⟩),
   (89, ⟨1, 24,false,[tzN],[],some 31,false,[],none⟩),
   (93, ⟨1, 24,false,[tzN],[],some 102,false,[],none⟩),
   (104, ⟨1, 24,false,[tzN],[],some 98,false,[],none⟩),
   (105, ⟨1, 24,false,[tzN],[],some 9,false,[],none⟩),
   (111, ⟨1, 24,false,[tzN],[],some 115,false,[],none⟩),(134, ⟨1, 24,false,[tzN],[],some 136,false,[],none⟩),
   (149, ⟨1, 24,false,[tzN],[],some 5,false,[],none⟩),
   (152, ⟨1, 24,false,[tzN],[],some 158,false,[],none⟩),
   (206, ⟨1, 24,false,[tzN],[],some 132,false,[],none⟩),
   (2, ⟨1, 8,false,[.d (.v (.int .i64 (0)))],[],none,false,[],none⟩),
   (3, ⟨1, 8,false,[.d (.v (.int .i64 (0)))],[],none,false,[],none⟩),
   (4, ⟨1, 1,false,[tzB],[],none,false,[],none⟩),
   (5, ⟨1, 1,false,[.d (.v (.int .u8 (0)))],[],none,false,[],none⟩),
   (7, ⟨4, 24,true,[.d (.v (.int .i64 (0))),.d (.v (.int .i64 (0))), tzB, .d (.v (.int .u8 (0)))],[(0, 1),(1, 1),(2, 1),(3, 1)],none,false,[2, 3, 4, 6],none⟩),
   (9, ⟨1, 16,false,[tzS],[],none,true,[],none⟩),
   (12, ⟨1, 8,false,[.d (.v (.int .u64 (0)))],[],none,false,[],none⟩),
   (13, ⟨2, 24,true,[tzS, .d (.v (.int .u64 (0)))],[(0, 1),(1, 1)],none,false,[9, 12],none⟩),(21, ⟨1, 4,false,[.d (.v (.int .i32 (0)))],[],none,false,[],none⟩),
   (24, ⟨3, 40,true,[tzB, tzS, tzS],[(0, 1),(1, 1),(2, 1)],none,false,[4, 9, 9],none⟩),
   (26, ⟨6, 80,true,[tzB, tzS, tzS, tzB, tzS, tzS],[(0, 3),(3, 3)],none,false,[25, 25],none⟩),
   (28, ⟨4, 48,true,[tzB, tzB, tzS, tzS],[(0, 1),(1, 3)],none,false,[4, 25],none⟩),
   (30, ⟨10, 128,true,[tzB, tzS, tzS, tzB, tzS, tzS, tzB, tzB, tzS, tzS],[(0, 6),(6, 4)],none,false,[27, 29],none⟩),
   (33, ⟨12, 168,true,[tzS, tzB, tzS, tzS, tzB, tzS, tzS, tzB, tzB, tzS, tzS, tzN],[(0, 1),(1, 10),(11, 1)],none,false,[9, 31, 32],none⟩),
   (37, ⟨1, 24,true,[tzN],[(0, 1)],none,false,[22],none⟩),
   (38, ⟨1, 24,true,[tzN],[(0, 1)],none,false,[22],none⟩),
   (57, ⟨2, 32,true,[.d (.v (.int .i64 (0))), tzN],[(0, 1),(1, 1)],none,false,[3, 41],none⟩),
   (63, ⟨16, 224,true,[tzB, tzS, tzS, tzB, tzS, tzS, tzB, tzS, tzS, tzB, tzS, tzS, tzB, tzS, tzS, tzN],[(0, 3),(3, 3),(6, 3),(9, 3),(12, 3),(15, 1)],none,false,[25, 25, 25, 25, 25, 62],none⟩),
   (97, ⟨6, 80,true,[tzB, tzS, tzS, tzB, tzS, tzS],[(0, 3),(3, 3)],none,false,[25, 25],none⟩),
   (99, ⟨7, 104,true,[tzN, tzB, tzS, tzS, tzB, tzS, tzS],[(0, 1),(1, 6)],none,false,[41, 98],none⟩),(100, ⟨7, 104,true,[tzN, tzB, tzS, tzS, tzB, tzS, tzS],[(0, 1),(1, 6)],none,false,[41, 98],none⟩),
   (101, ⟨14, 208,true,[tzN, tzB, tzS, tzS, tzB, tzS, tzS, tzN, tzB, tzS, tzS, tzB, tzS, tzS],[(0, 7),(7, 7)],none,false,[100, 100],none⟩),
   (102, ⟨14, 208,true,[tzN, tzB, tzS, tzS, tzB, tzS, tzS, tzN, tzB, tzS, tzS, tzB, tzS, tzS],[(0, 7),(7, 7)],none,false,[100, 100],none⟩),
   (114, ⟨12, 160,true,[tzB, tzS, tzS, tzB, tzS, tzS, tzB, tzS, tzS, tzB, tzS, tzS],[(0, 6),(6, 6)],none,false,[27, 27],none⟩),
   (132, ⟨1, 8,false,[.d (.v (.int .u64 (0)))],[],none,false,[],none⟩),
   (136, ⟨1, 4,false,[.d (.v (.int .u32 (0)))],[],none,false,[],none⟩),
   (137, ⟨1, 8,false,[.d (.v (.int .u64 (0)))],[],none,false,[],none⟩),
   (157, ⟨24, 320,true,[tzB, tzS, tzS, tzB, tzS, tzS, tzB, tzS, tzS, tzB, tzS, tzS, tzB, tzS, tzS, tzB, tzS, tzS, tzB, tzS, tzS, tzB, tzS, tzS],[(0, 6),(6, 6),(12, 6),(18, 6)],none,false,[98, 98, 98, 98],none⟩),
   (158, ⟨24, 320,true,[tzB, tzS, tzS, tzB, tzS, tzS, tzB, tzS, tzS, tzB, tzS, tzS, tzB, tzS, tzS, tzB, tzS, tzS, tzB, tzS, tzS, tzB, tzS, tzS],[(0, 6),(6, 6),(12, 6),(18, 6)],none,false,[98, 98, 98, 98],none⟩),
   (169, ⟨8, 8,true,[.d (.v (.int .u8 (0))),.d (.v (.int .u8 (0))),.d (.v (.int .u8 (0))),.d (.v (.int .u8 (0))),.d (.v (.int .u8 (0))),.d (.v (.int .u8 (0))),.d (.v (.int .u8 (0))),.d (.v (.int .u8 (0)))],[],none,false,[],some (8, 5)⟩),
   (178, ⟨1, 24,false,[tzN],[],some 41,false,[],none⟩)]
def TB0 : List (Nat × Ty) := (TB.drop 0).take 12
def TB1 : List (Nat × Ty) := (TB.drop 12).take 12
def TB2 : List (Nat × Ty) := (TB.drop 24).take 12
def TB3 : List (Nat × Ty) := (TB.drop 36).take 12
def TB4 : List (Nat × Ty) := (TB.drop 48).take 11
def TBall (P : Program) : List (Nat × Ty) → Prop
  | [] => True
  | e :: r => tyOf P e.1 = some e.2 ∧ TBall P r
set_option maxRecDepth 100000 in
theorem Zu5 : TBall Tryz.prog TB0 :=
  ⟨ωr,ωr,ωr,ωr,ωr,ωr,ωr,ωr,ωr,ωr,ωr,ωr, trivial⟩
set_option maxRecDepth 100000 in
theorem Zu4 : TBall Tryz.prog TB1 :=
  ⟨ωr,ωr,ωr,ωr,ωr,ωr,ωr,ωr,ωr,ωr,ωr,ωr, trivial⟩
set_option maxRecDepth 100000 in
theorem Zu3 : TBall Tryz.prog TB2 :=
  ⟨ωr,ωr,ωr,ωr,ωr,ωr,ωr,ωr,ωr,ωr,ωr,ωr, trivial⟩
set_option maxRecDepth 100000 in
theorem Zu2 : TBall Tryz.prog TB3 :=
  ⟨ωr,ωr,ωr,ωr,ωr,ωr,ωr,ωr,ωr,ωr,ωr,ωr, trivial⟩
set_option maxRecDepth 100000 in
theorem Zu1 : TBall Tryz.prog TB4 :=
  ⟨ωr,ωr,ωr,ωr,ωr,ωr,ωr,ωr,ωr,ωr,ωr, trivial⟩
theorem TBall.mem {P : Program} {L : List (Nat × Ty)} (h : TBall P L) {e : Nat × Ty} (he : e ∈ L) : tyOf P e.1 = some e.2 := by
  induction L with
  | nil => simp at he
  | cons x r ih =>
    rcases List.mem_cons.1 he with rfl | he
    · exact h.1
    · exact ih h.2 he
set_option maxRecDepth 100000 in
theorem ZwA : TB = TB0 ++ TB1 ++ TB2 ++ TB3 ++ TB4 := ωr
theorem Zh8 : TBok Tryz.prog TB := by
  intro t ty h
  rw [ZwA] at h
  simp only [List.mem_append] at h
  rcases h with (((h | h) | h) | h) | h
  · exact TBall.mem (e := (t, ty)) Zu5 h
  · exact TBall.mem (e := (t, ty)) Zu4 h
  · exact TBall.mem (e := (t, ty)) Zu3 h
  · exact TBall.mem (e := (t, ty)) Zu2 h
  · exact TBall.mem (e := (t, ty)) Zu1 h
def prmOf (P : Program) (nt : Nat) : Prm := ⟨P, Tab, TB, ⟨nt,[],false⟩,[]⟩
def prmOwn (P : Program) (nt : Nat) (own : List Nat) : Prm := ⟨P, Tab, TB, ⟨nt,[],false⟩, own⟩
def prmL (P : Program) (nt i : Nat) (own : List Nat) : Prm := ⟨P, Tab, TB, ⟨nt,[i],false⟩, own⟩
theorem mixed : Tryz.prog.follows .mixedOrders = true := ωr
