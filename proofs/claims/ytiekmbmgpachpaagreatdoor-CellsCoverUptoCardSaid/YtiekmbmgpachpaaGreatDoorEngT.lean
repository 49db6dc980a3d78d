/- The engine at this program: the table of its types, and that it is the program's. Printed by wip/gen_tb.py. -/
import Derived.Test.YtiekmbmgpachpaaGreatDoorEng
import Derived.Test.YtiekmbmgpachpaaGreatDoorTab
import Derived.Test.YtiekmbmgpachpaaGreatDoorSeg
namespace Go.Proofs.YtiekmbmgpachpaaGreatDoor.eng
open Go.RowKit mem seg
def TB0 : List (Nat × Ty) :=
  [(27, ⟨3, 40,true,[.d (.v (.bool false)),.d (.v (.string ⟨#[]⟩)),.d (.v (.string ⟨#[]⟩))],[(0, 1),(1, 1),(2, 1)],none,false,[4, 9, 9],none⟩),
   (31, ⟨6, 80,true,[.d (.v (.bool false)),.d (.v (.string ⟨#[]⟩)),.d (.v (.string ⟨#[]⟩)),.d (.v (.bool false)),.d (.v (.string ⟨#[]⟩)),.d (.v (.string ⟨#[]⟩))],[(0, 3),(3, 3)],none,false,[27, 27],none⟩),
   (36, ⟨6, 80,true,[.d (.v (.bool false)),.d (.v (.string ⟨#[]⟩)),.d (.v (.string ⟨#[]⟩)),.d (.v (.bool false)),.d (.v (.string ⟨#[]⟩)),.d (.v (.string ⟨#[]⟩))],[(0, 3),(3, 3)],none,false,[27, 27],none⟩),
   (38, ⟨12, 160,true,[.d (.v (.bool false)),.d (.v (.string ⟨#[]⟩)),.d (.v (.string ⟨#[]⟩)),.d (.v (.bool false)),.d (.v (.string ⟨#[]⟩)),.d (.v (.string ⟨#[]⟩)),.d (.v (.bool false)),.d (.v (.string ⟨#[]⟩)),.d (.v (.string ⟨#[]⟩)),.d (.v (.bool false)),.d (.v (.string ⟨#[]⟩)),.d (.v (.string ⟨#[]⟩))],[(0, 6),(6, 6)],none,false,[36, 36],none⟩),
   (39, ⟨1, 8,false,[.d (.v (.int .i64 (0)))],[],none,false,[],none⟩),
   (44, ⟨4, 48,true,[.d (.v (.bool false)),.d (.v (.bool false)),.d (.v (.string ⟨#[]⟩)),.d (.v (.string ⟨#[]⟩))],[(0, 1),(1, 3)],none,false,[4, 27],none⟩),
   (47, ⟨10, 128,true,[.d (.v (.bool false)),.d (.v (.string ⟨#[]⟩)),.d (.v (.string ⟨#[]⟩)),.d (.v (.bool false)),.d (.v (.string ⟨#[]⟩)),.d (.v (.string ⟨#[]⟩)),.d (.v (.bool false)),.d (.v (.bool false)),.d (.v (.string ⟨#[]⟩)),.d (.v (.string ⟨#[]⟩))],[(0, 6),(6, 4)],none,false,[36, 44],none⟩),
   (69, ⟨2, 16,true,[.d (.v (.int .i64 (0))),.d (.v (.int .i64 (0)))],[(0, 1),(1, 1)],none,false,[3, 3],none⟩),
   (22, ⟨1, 24,false,[.d (.v (.slice none 0 0))],[],some 3,false,[],none⟩),
   (24, ⟨1, 24,false,[.d (.v (.slice none 0 0))],[],some 36,false,[],none⟩),
   (48, ⟨1, 24,false,[.d (.v (.slice none 0 0))],[],some 69,false,[],none⟩),
   (52, ⟨1, 24,false,[.d (.v (.slice none 0 0))],[],some 39,false,[],none⟩)]
def TB1 : List (Nat × Ty) :=
  [(77, ⟨1, 24,false,[.d (.v (.slice none 0 0))],[],some 31,false,[],none⟩),
   (80, ⟨1, 24,false,[.d (.v (.slice none 0 0))],[],some 27,false,[],none⟩),
   (113, ⟨1, 24,false,[.d (.v (.slice none 0 0))],[],some 80,false,[],none⟩),
   (130, ⟨1, 24,false,[.d (.v (.slice none 0 0))],[],some 48,false,[],none⟩),
   (143, ⟨1, 24,false,[.d (.v (.slice none 0 0))],[],some 145,false,[],none⟩),
   (151, ⟨1, 24,false,[.d (.v (.slice none 0 0))],[],some 5,false,[],none⟩),
   (179, ⟨1, 24,false,[.d (.v (.slice none 0 0))],[],some 76,false,[],none⟩),
   (2, ⟨1, 8,false,[.d (.v (.int .i64 (0)))],[],none,false,[],none⟩),
   (3, ⟨1, 8,false,[.d (.v (.int .i64 (0)))],[],none,false,[],none⟩),
   (4, ⟨1, 1,false,[.d (.v (.bool false))],[],none,false,[],none⟩),
   (5, ⟨1, 1,false,[.d (.v (.int .u8 (0)))],[],none,false,[],none⟩),
   (7, ⟨4, 24,true,[.d (.v (.int .i64 (0))),.d (.v (.int .i64 (0))),.d (.v (.bool false)),.d (.v (.int .u8 (0)))],[(0, 1),(1, 1),(2, 1),(3, 1)],none,false,[2, 3, 4, 6],none⟩)]
def TB2 : List (Nat × Ty) :=
  [(9, ⟨1, 16,false,[.d (.v (.string ⟨#[]⟩))],[],none,true,[],none⟩),
   (12, ⟨1, 8,false,[.d (.v (.int .u64 (0)))],[],none,false,[],none⟩),
   (13, ⟨2, 24,true,[.d (.v (.string ⟨#[]⟩)),.d (.v (.int .u64 (0)))],[(0, 1),(1, 1)],none,false,[9, 12],none⟩),
   (21, ⟨1, 4,false,[.d (.v (.int .i32 (0)))],[],none,false,[],none⟩),
   (26, ⟨3, 40,true,[.d (.v (.bool false)),.d (.v (.string ⟨#[]⟩)),.d (.v (.string ⟨#[]⟩))],[(0, 1),(1, 1),(2, 1)],none,false,[4, 9, 9],none⟩),
   (30, ⟨6, 80,true,[.d (.v (.bool false)),.d (.v (.string ⟨#[]⟩)),.d (.v (.string ⟨#[]⟩)),.d (.v (.bool false)),.d (.v (.string ⟨#[]⟩)),.d (.v (.string ⟨#[]⟩))],[(0, 3),(3, 3)],none,false,[27, 27],none⟩),
   (35, ⟨6, 80,true,[.d (.v (.bool false)),.d (.v (.string ⟨#[]⟩)),.d (.v (.string ⟨#[]⟩)),.d (.v (.bool false)),.d (.v (.string ⟨#[]⟩)),.d (.v (.string ⟨#[]⟩))],[(0, 3),(3, 3)],none,false,[27, 27],none⟩),
   (37, ⟨12, 160,true,[.d (.v (.bool false)),.d (.v (.string ⟨#[]⟩)),.d (.v (.string ⟨#[]⟩)),.d (.v (.bool false)),.d (.v (.string ⟨#[]⟩)),.d (.v (.string ⟨#[]⟩)),.d (.v (.bool false)),.d (.v (.string ⟨#[]⟩)),.d (.v (.string ⟨#[]⟩)),.d (.v (.bool false)),.d (.v (.string ⟨#[]⟩)),.d (.v (.string ⟨#[]⟩))],[(0, 6),(6, 6)],none,false,[36, 36],none⟩),
   (43, ⟨4, 48,true,[.d (.v (.bool false)),.d (.v (.bool false)),.d (.v (.string ⟨#[]⟩)),.d (.v (.string ⟨#[]⟩))],[(0, 1),(1, 3)],none,false,[4, 27],none⟩),
   (46, ⟨10, 128,true,[.d (.v (.bool false)),.d (.v (.string ⟨#[]⟩)),.d (.v (.string ⟨#[]⟩)),.d (.v (.bool false)),.d (.v (.string ⟨#[]⟩)),.d (.v (.string ⟨#[]⟩)),.d (.v (.bool false)),.d (.v (.bool false)),.d (.v (.string ⟨#[]⟩)),.d (.v (.string ⟨#[]⟩))],[(0, 6),(6, 4)],none,false,[36, 44],none⟩),
   (68, ⟨2, 16,true,[.d (.v (.int .i64 (0))),.d (.v (.int .i64 (0)))],[(0, 1),(1, 1)],none,false,[3, 3],none⟩),
   (76, ⟨1, 8,false,[.d (.v (.int .u64 (0)))],[],none,false,[],none⟩)]
def TB3 : List (Nat × Ty) :=
  [(84, ⟨1, 24,true,[.d (.v (.slice none 0 0))],[(0, 1)],none,false,[22],none⟩),
   (85, ⟨1, 24,true,[.d (.v (.slice none 0 0))],[(0, 1)],none,false,[22],none⟩),
   (96, ⟨1, 8,false,[.d (.v (.nilFunc))],[],none,false,[],none⟩),
   (110, ⟨1, 8,false,[.d (.v (.int .u64 (0)))],[],none,false,[],none⟩),
   (111, ⟨1, 8,false,[.d (.v (.nilFunc))],[],none,false,[],none⟩),
   (114, ⟨1, 24,false,[.d (.v (.slice none 0 0))],[],some 80,false,[],none⟩),
   (145, ⟨1, 4,false,[.d (.v (.int .u32 (0)))],[],none,false,[],none⟩),
   (162, ⟨8, 8,true,[.d (.v (.int .u8 (0))),.d (.v (.int .u8 (0))),.d (.v (.int .u8 (0))),.d (.v (.int .u8 (0))),.d (.v (.int .u8 (0))),.d (.v (.int .u8 (0))),.d (.v (.int .u8 (0))),.d (.v (.int .u8 (0)))],[],none,false,[],some (8, 5)⟩),
   (169, ⟨1, 8,false,[.d (.v (.int .i64 (0)))],[],none,false,[],none⟩),
   (185, ⟨1, 8,false,[.d (.v (.int .u64 (0)))],[],none,false,[],none⟩)]
def TBall (P : Program) : List (Nat × Ty) → Prop
  | [] => True
  | e :: r => tyOf P e.1 = some e.2 ∧ TBall P r
set_option maxRecDepth 100000 in
theorem ZpU : TBall Tryz.prog TB0 :=
  ⟨by kernel_rfl, by kernel_rfl, by kernel_rfl, by kernel_rfl, by kernel_rfl, by kernel_rfl, by kernel_rfl, by kernel_rfl, by kernel_rfl, by kernel_rfl, by kernel_rfl, by kernel_rfl, trivial⟩
set_option maxRecDepth 100000 in
theorem ZpT : TBall Tryz.prog TB1 :=
  ⟨by kernel_rfl, by kernel_rfl, by kernel_rfl, by kernel_rfl, by kernel_rfl, by kernel_rfl, by kernel_rfl, by kernel_rfl, by kernel_rfl, by kernel_rfl, by kernel_rfl, by kernel_rfl, trivial⟩
set_option maxRecDepth 100000 in
theorem ZpS : TBall Tryz.prog TB2 :=
  ⟨by kernel_rfl, by kernel_rfl, by kernel_rfl, by kernel_rfl, by kernel_rfl, by kernel_rfl, by kernel_rfl, by kernel_rfl, by kernel_rfl, by kernel_rfl, by kernel_rfl, by kernel_rfl, trivial⟩
set_option maxRecDepth 100000 in
theorem ZpR : TBall Tryz.prog TB3 :=
  ⟨by kernel_rfl, by kernel_rfl, by kernel_rfl, by kernel_rfl, by kernel_rfl, by kernel_rfl, by kernel_rfl, by kernel_rfl, by kernel_rfl, by kernel_rfl, trivial⟩
def TB : List (Nat × Ty) := [(27, ⟨3, 40,true,[.d (.v (.bool false)),.d (.v (.string ⟨#[]⟩)),.d (.v (.string ⟨#[]⟩))],[(0, 1),(1, 1),(2, 1)],none,false,[4, 9, 9],none⟩),
   (31, ⟨6, 80,true,[.d (.v (.bool false)),.d (.v (.string ⟨#[]⟩)),.d (.v (.string ⟨#[]⟩)),.d (.v (.bool false)),.d (.v (.string ⟨#[]⟩)),.d (.v (.string ⟨#[]⟩))],[(0, 3),(3, 3)],none,false,[27, 27],none⟩),
   (36, ⟨6, 80,true,[.d (.v (.bool false)),.d (.v (.string ⟨#[]⟩)),.d (.v (.string ⟨#[]⟩)),.d (.v (.bool false)),.d (.v (.string ⟨#[]⟩)),.d (.v (.string ⟨#[]⟩))],[(0, 3),(3, 3)],none,false,[27, 27],none⟩),
   (38, ⟨12, 160,true,[.d (.v (.bool false)),.d (.v (.string ⟨#[]⟩)),.d (.v (.string ⟨#[]⟩)),.d (.v (.bool false)),.d (.v (.string ⟨#[]⟩)),.d (.v (.string ⟨#[]⟩)),.d (.v (.bool false)),.d (.v (.string ⟨#[]⟩)),.d (.v (.string ⟨#[]⟩)),.d (.v (.bool false)),.d (.v (.string ⟨#[]⟩)),.d (.v (.string ⟨#[]⟩))],[(0, 6),(6, 6)],none,false,[36, 36],none⟩),
   (39, ⟨1, 8,false,[.d (.v (.int .i64 (0)))],[],none,false,[],none⟩),
   (44, ⟨4, 48,true,[.d (.v (.bool false)),.d (.v (.bool false)),.d (.v (.string ⟨#[]⟩)),.d (.v (.string ⟨#[]⟩))],[(0, 1),(1, 3)],none,false,[4, 27],none⟩),
   (47, ⟨10, 128,true,[.d (.v (.bool false)),.d (.v (.string ⟨#[]⟩)),.d (.v (.string ⟨#[]⟩)),.d (.v (.bool false)),.d (.v (.string ⟨#[]⟩)),.d (.v (.string ⟨#[]⟩)),.d (.v (.bool false)),.d (.v (.bool false)),.d (.v (.string ⟨#[]⟩)),.d (.v (.string ⟨#[]⟩))],[(0, 6),(6, 4)],none,false,[36, 44],none⟩),
   (69, ⟨2, 16,true,[.d (.v (.int .i64 (0))),.d (.v (.int .i64 (0)))],[(0, 1),(1, 1)],none,false,[3, 3],none⟩),
   (22, ⟨1, 24,false,[.d (.v (.slice none 0 0))],[],some 3,false,[],none⟩),
   (24, ⟨1, 24,false,[.d (.v (.slice none 0 0))],[],some 36,false,[],none⟩),
   (48, ⟨1, 24,false,[.d (.v (.slice none 0 0))],[],some 69,false,[],none⟩),
   (52, ⟨1, 24,false,[.d (.v (.slice none 0 0))],[],some 39,false,[],none⟩),(77, ⟨1, 24,false,[.d (.v (.slice none 0 0))],[],some 31,false,[],none⟩),
   (80, ⟨1, 24,false,[.d (.v (.slice none 0 0))],[],some 27,false,[],none⟩),
   (113, ⟨1, 24,false,[.d (.v (.slice none 0 0))],[],some 80,false,[],none⟩),
   (130, ⟨1, 24,false,[.d (.v (.slice none 0 0))],[],some 48,false,[],none⟩),
   (143, ⟨1, 24,false,[.d (.v (.slice none 0 0))],[],some 145,false,[],none⟩),
   (151, ⟨1, 24,false,[.d (.v (.slice none 0 0))],[],some 5,false,[],none⟩),
   (179, ⟨1, 24,false,[.d (.v (.slice none 0 0))],[],some 76,false,[],none⟩),
   (2, ⟨1, 8,false,[.d (.v (.int .i64 (0)))],[],none,false,[],none⟩),
   (3, ⟨1, 8,false,[.d (.v (.int .i64 (0)))],[],none,false,[],none⟩),
   (4, ⟨1, 1,false,[.d (.v (.bool false))],[],none,false,[],none⟩),
   (5, ⟨1, 1,false,[.d (.v (.int .u8 (0)))],[],none,false,[],none⟩),
   (7, ⟨4, 24,true,[.d (.v (.int .i64 (0))),.d (.v (.int .i64 (0))),.d (.v (.bool false)),.d (.v (.int .u8 (0)))],[(0, 1),(1, 1),(2, 1),(3, 1)],none,false,[2, 3, 4, 6],none⟩),(9, ⟨1, 16,false,[.d (.v (.string ⟨#[]⟩))],[],none,true,[],none⟩),
   (12, ⟨1, 8,false,[.d (.v (.int .u64 (0)))],[],none,false,[],none⟩),
   (13, ⟨2, 24,true,[.d (.v (.string ⟨#[]⟩)),.d (.v (.int .u64 (0)))],[(0, 1),(1, 1)],none,false,[9, 12],none⟩),
   (21, ⟨1, 4,false,[.d (.v (.int .i32 (0)))],[],none,false,[],none⟩),
   (26, ⟨3, 40,true,[.d (.v (.bool false)),.d (.v (.string ⟨#[]⟩)),.d (.v (.string ⟨#[]⟩))],[(0, 1),(1, 1),(2, 1)],none,false,[4, 9, 9],none⟩),
   (30, ⟨6, 80,true,[.d (.v (.bool false)),.d (.v (.string ⟨#[]⟩)),.d (.v (.string ⟨#[]⟩)),.d (.v (.bool false)),.d (.v (.string ⟨#[]⟩)),.d (.v (.string ⟨#[]⟩))],[(0, 3),(3, 3)],none,false,[27, 27],none⟩),
   (35, ⟨6, 80,true,[.d (.v (.bool false)),.d (.v (.string ⟨#[]⟩)),.d (.v (.string ⟨#[]⟩)),.d (.v (.bool false)),.d (.v (.string ⟨#[]⟩)),.d (.v (.string ⟨#[]⟩))],[(0, 3),(3, 3)],none,false,[27, 27],none⟩),
   (37, ⟨12, 160,true,[.d (.v (.bool false)),.d (.v (.string ⟨#[]⟩)),.d (.v (.string ⟨#[]⟩)),.d (.v (.bool false)),.d (.v (.string ⟨#[]⟩)),.d (.v (.string ⟨#[]⟩)),.d (.v (.bool false)),.d (.v (.string ⟨#[]⟩)),.d (.v (.string ⟨#[]⟩)),.d (.v (.bool false)),.d (.v (.string ⟨#[]⟩)),.d (.v (.string ⟨#[]⟩))],[(0, 6),(6, 6)],none,false,[36, 36],none⟩),
   (43, ⟨4, 48,true,[.d (.v (.bool false)),.d (.v (.bool false)),.d (.v (.string ⟨#[]⟩)),.d (.v (.string ⟨#[]⟩))],[(0, 1),(1, 3)],none,false,[4, 27],none⟩),
   (46, ⟨10, 128,true,[.d (.v (.bool false)),.d (.v (.string ⟨#[]⟩)),.d (.v (.string ⟨#[]⟩)),.d (.v (.bool false)),.d (.v (.string ⟨#[]⟩)),.d (.v (.string ⟨#[]⟩)),.d (.v (.bool false)),.d (.v (.bool false)),.d (.v (.string ⟨#[]⟩)),.d (.v (.string ⟨#[]⟩))],[(0, 6),(6, 4)],none,false,[36, 44],none⟩),
   (68, ⟨2, 16,true,[.d (.v (.int .i64 (0))),.d (.v (.int .i64 (0)))],[(0, 1),(1, 1)],none,false,[3, 3],none⟩),
   (76, ⟨1, 8,false,[.d (.v (.int .u64 (0)))],[],none,false,[],none⟩),(84, ⟨1, 24,true,[.d (.v (.slice none 0 0))],[(0, 1)],none,false,[22],none⟩),
   (85, ⟨1, 24,true,[.d (.v (.slice none 0 0))],[(0, 1)],none,false,[22],none⟩),
   (96, ⟨1, 8,false,[.d (.v (.nilFunc))],[],none,false,[],none⟩),
   (110, ⟨1, 8,false,[.d (.v (.int .u64 (0)))],[],none,false,[],none⟩),
   (111, ⟨1, 8,false,[.d (.v (.nilFunc))],[],none,false,[],none⟩),
   (114, ⟨1, 24,false,[.d (.v (.slice none 0 0))],[],some 80,false,[],none⟩),
   (145, ⟨1, 4,false,[.d (.v (.int .u32 (0)))],[],none,false,[],none⟩),
   (162, ⟨8, 8,true,[.d (.v (.int .u8 (0))),.d (.v (.int .u8 (0))),.d (.v (.int .u8 (0))),.d (.v (.int .u8 (0))),.d (.v (.int .u8 (0))),.d (.v (.int .u8 (0))),.d (.v (.int .u8 (0))),.d (.v (.int .u8 (0)))],[],none,false,[],some (8, 5)⟩),
   (169, ⟨1, 8,false,[.d (.v (.int .i64 (0)))],[],none,false,[],none⟩),
   (185, ⟨1, 8,false,[.d (.v (.int .u64 (0)))],[],none,false,[],none⟩)]
theorem TBall.mem {P : Program} {L : List (Nat × Ty)} (h : TBall P L) {e : Nat × Ty} (he : e ∈ L) : tyOf P e.1 = some e.2 := by
  induction L with
  | nil => simp at he
  | cons x r ih =>
    rcases List.mem_cons.1 he with rfl | he
    · exact h.1
    · exact ih h.2 he
set_option maxRecDepth 100000 in
theorem Zrg : TB = TB0 ++ TB1 ++ TB2 ++ TB3 := by kernel_rfl
theorem Zgj : TBok Tryz.prog TB := by
  intro t ty h
  rw [Zrg] at h
  simp only [List.mem_append] at h
  rcases h with ((h | h) | h) | h
  · exact TBall.mem (e := (t, ty)) ZpU h
  · exact TBall.mem (e := (t, ty)) ZpT h
  · exact TBall.mem (e := (t, ty)) ZpS h
  · exact TBall.mem (e := (t, ty)) ZpR h
def prmOf (P : Program) (nt : Nat) : Prm := ⟨P, Tab, TB, ⟨nt,[],false⟩,[]⟩
def prmOwn (P : Program) (nt : Nat) (own : List Nat) : Prm := ⟨P, Tab, TB, ⟨nt,[],false⟩, own⟩
def prmL (P : Program) (nt i : Nat) (own : List Nat) : Prm := ⟨P, Tab, TB, ⟨nt,[i],false⟩, own⟩
theorem mixed : Tryz.prog.follows .mixedOrders = true := by kernel_rfl
end Go.Proofs.YtiekmbmgpachpaaGreatDoor.eng
