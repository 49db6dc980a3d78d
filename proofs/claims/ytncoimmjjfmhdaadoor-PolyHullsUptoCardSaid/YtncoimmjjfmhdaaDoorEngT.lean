/- The engine at this program: the table of its types, and that it is the program's. Printed by wip/gen_tb.py. -/
import Derived.Test.YtncoimmjjfmhdaaDoorEng
import Derived.Test.YtncoimmjjfmhdaaDoorTab
import Derived.Test.YtncoimmjjfmhdaaDoorSeg
namespace Go.Proofs.YtncoimmjjfmhdaaDoor.eng
open Go.RowKit mem seg
def TB0 : List (Nat × Ty) :=
  [(24, ⟨1, 8,false,[.d (.v (.int .i64 (0)))],[],none,false,[],none⟩),
   (29, ⟨3, 40,true,[.d (.v (.bool false)),.d (.v (.string ⟨#[]⟩)),.d (.v (.string ⟨#[]⟩))],[(0, 1),(1, 1),(2, 1)],none,false,[4, 9, 9],none⟩),
   (31, ⟨6, 80,true,[.d (.v (.bool false)),.d (.v (.string ⟨#[]⟩)),.d (.v (.string ⟨#[]⟩)),.d (.v (.bool false)),.d (.v (.string ⟨#[]⟩)),.d (.v (.string ⟨#[]⟩))],[(0, 3),(3, 3)],none,false,[29, 29],none⟩),
   (35, ⟨2, 16,true,[.d (.v (.int .i64 (0))),.d (.v (.int .i64 (0)))],[(0, 1),(1, 1)],none,false,[3, 3],none⟩),
   (57, ⟨12, 160,true,[.d (.v (.bool false)),.d (.v (.string ⟨#[]⟩)),.d (.v (.string ⟨#[]⟩)),.d (.v (.bool false)),.d (.v (.string ⟨#[]⟩)),.d (.v (.string ⟨#[]⟩)),.d (.v (.bool false)),.d (.v (.string ⟨#[]⟩)),.d (.v (.string ⟨#[]⟩)),.d (.v (.bool false)),.d (.v (.string ⟨#[]⟩)),.d (.v (.string ⟨#[]⟩))],[(0, 6),(6, 6)],none,false,[31, 31],none⟩),
   (22, ⟨1, 24,false,[.d (.v (.slice none 0 0))],[],some 31,false,[],none⟩),
   (33, ⟨1, 24,false,[.d (.v (.slice none 0 0))],[],some 35,false,[],none⟩),
   (82, ⟨1, 24,false,[.d (.v (.slice none 0 0))],[],some 33,false,[],none⟩),
   (114, ⟨1, 24,false,[.d (.v (.slice none 0 0))],[],some 104,false,[],none⟩),
   (116, ⟨1, 24,false,[.d (.v (.slice none 0 0))],[],some 5,false,[],none⟩),
   (138, ⟨1, 24,false,[.d (.v (.slice none 0 0))],[],some 106,false,[],none⟩),
   (2, ⟨1, 8,false,[.d (.v (.int .i64 (0)))],[],none,false,[],none⟩)]
def TB1 : List (Nat × Ty) :=
  [(3, ⟨1, 8,false,[.d (.v (.int .i64 (0)))],[],none,false,[],none⟩),
   (4, ⟨1, 1,false,[.d (.v (.bool false))],[],none,false,[],none⟩),
   (5, ⟨1, 1,false,[.d (.v (.int .u8 (0)))],[],none,false,[],none⟩),
   (7, ⟨4, 24,true,[.d (.v (.int .i64 (0))),.d (.v (.int .i64 (0))),.d (.v (.bool false)),.d (.v (.int .u8 (0)))],[(0, 1),(1, 1),(2, 1),(3, 1)],none,false,[2, 3, 4, 6],none⟩),
   (9, ⟨1, 16,false,[.d (.v (.string ⟨#[]⟩))],[],none,true,[],none⟩),
   (12, ⟨1, 8,false,[.d (.v (.int .u64 (0)))],[],none,false,[],none⟩),
   (13, ⟨2, 24,true,[.d (.v (.string ⟨#[]⟩)),.d (.v (.int .u64 (0)))],[(0, 1),(1, 1)],none,false,[9, 12],none⟩),
   (21, ⟨1, 4,false,[.d (.v (.int .i32 (0)))],[],none,false,[],none⟩),
   (28, ⟨3, 40,true,[.d (.v (.bool false)),.d (.v (.string ⟨#[]⟩)),.d (.v (.string ⟨#[]⟩))],[(0, 1),(1, 1),(2, 1)],none,false,[4, 9, 9],none⟩),
   (30, ⟨6, 80,true,[.d (.v (.bool false)),.d (.v (.string ⟨#[]⟩)),.d (.v (.string ⟨#[]⟩)),.d (.v (.bool false)),.d (.v (.string ⟨#[]⟩)),.d (.v (.string ⟨#[]⟩))],[(0, 3),(3, 3)],none,false,[29, 29],none⟩),
   (34, ⟨2, 16,true,[.d (.v (.int .i64 (0))),.d (.v (.int .i64 (0)))],[(0, 1),(1, 1)],none,false,[3, 3],none⟩),
   (38, ⟨1, 8,false,[.d (.v (.nilFunc))],[],none,false,[],none⟩)]
def TB2 : List (Nat × Ty) :=
  [(56, ⟨12, 160,true,[.d (.v (.bool false)),.d (.v (.string ⟨#[]⟩)),.d (.v (.string ⟨#[]⟩)),.d (.v (.bool false)),.d (.v (.string ⟨#[]⟩)),.d (.v (.string ⟨#[]⟩)),.d (.v (.bool false)),.d (.v (.string ⟨#[]⟩)),.d (.v (.string ⟨#[]⟩)),.d (.v (.bool false)),.d (.v (.string ⟨#[]⟩)),.d (.v (.string ⟨#[]⟩))],[(0, 6),(6, 6)],none,false,[31, 31],none⟩),
   (75, ⟨1, 8,false,[.d (.v (.int .u64 (0)))],[],none,false,[],none⟩),
   (97, ⟨1, 8,false,[.d (.v (.int .i64 (0)))],[],none,false,[],none⟩),
   (104, ⟨1, 4,false,[.d (.v (.int .u32 (0)))],[],none,false,[],none⟩),
   (106, ⟨1, 8,false,[.d (.v (.int .u64 (0)))],[],none,false,[],none⟩),
   (125, ⟨1, 8,false,[.d (.v (.int .u64 (0)))],[],none,false,[],none⟩),
   (137, ⟨8, 8,true,[.d (.v (.int .u8 (0))),.d (.v (.int .u8 (0))),.d (.v (.int .u8 (0))),.d (.v (.int .u8 (0))),.d (.v (.int .u8 (0))),.d (.v (.int .u8 (0))),.d (.v (.int .u8 (0))),.d (.v (.int .u8 (0)))],[],none,false,[],some (8, 5)⟩)]
def TBall (P : Program) : List (Nat × Ty) → Prop
  | [] => True
  | e :: r => tyOf P e.1 = some e.2 ∧ TBall P r
set_option maxRecDepth 100000 in
theorem Zlc : TBall Tryd.prog TB0 :=
  ⟨by kernel_rfl, by kernel_rfl, by kernel_rfl, by kernel_rfl, by kernel_rfl, by kernel_rfl, by kernel_rfl, by kernel_rfl, by kernel_rfl, by kernel_rfl, by kernel_rfl, by kernel_rfl, trivial⟩
set_option maxRecDepth 100000 in
theorem Zlb : TBall Tryd.prog TB1 :=
  ⟨by kernel_rfl, by kernel_rfl, by kernel_rfl, by kernel_rfl, by kernel_rfl, by kernel_rfl, by kernel_rfl, by kernel_rfl, by kernel_rfl, by kernel_rfl, by kernel_rfl, by kernel_rfl, trivial⟩
set_option maxRecDepth 100000 in
theorem Zla : TBall Tryd.prog TB2 :=
  ⟨by kernel_rfl, by kernel_rfl, by kernel_rfl, by kernel_rfl, by kernel_rfl, by kernel_rfl, by kernel_rfl, trivial⟩
def TB : List (Nat × Ty) := [(24, ⟨1, 8,false,[.d (.v (.int .i64 (0)))],[],none,false,[],none⟩),
   (29, ⟨3, 40,true,[.d (.v (.bool false)),.d (.v (.string ⟨#[]⟩)),.d (.v (.string ⟨#[]⟩))],[(0, 1),(1, 1),(2, 1)],none,false,[4, 9, 9],none⟩),
   (31, ⟨6, 80,true,[.d (.v (.bool false)),.d (.v (.string ⟨#[]⟩)),.d (.v (.string ⟨#[]⟩)),.d (.v (.bool false)),.d (.v (.string ⟨#[]⟩)),.d (.v (.string ⟨#[]⟩))],[(0, 3),(3, 3)],none,false,[29, 29],none⟩),
   (35, ⟨2, 16,true,[.d (.v (.int .i64 (0))),.d (.v (.int .i64 (0)))],[(0, 1),(1, 1)],none,false,[3, 3],none⟩),
   (57, ⟨12, 160,true,[.d (.v (.bool false)),.d (.v (.string ⟨#[]⟩)),.d (.v (.string ⟨#[]⟩)),.d (.v (.bool false)),.d (.v (.string ⟨#[]⟩)),.d (.v (.string ⟨#[]⟩)),.d (.v (.bool false)),.d (.v (.string ⟨#[]⟩)),.d (.v (.string ⟨#[]⟩)),.d (.v (.bool false)),.d (.v (.string ⟨#[]⟩)),.d (.v (.string ⟨#[]⟩))],[(0, 6),(6, 6)],none,false,[31, 31],none⟩),
   (22, ⟨1, 24,false,[.d (.v (.slice none 0 0))],[],some 31,false,[],none⟩),
   (33, ⟨1, 24,false,[.d (.v (.slice none 0 0))],[],some 35,false,[],none⟩),
   (82, ⟨1, 24,false,[.d (.v (.slice none 0 0))],[],some 33,false,[],none⟩),
   (114, ⟨1, 24,false,[.d (.v (.slice none 0 0))],[],some 104,false,[],none⟩),
   (116, ⟨1, 24,false,[.d (.v (.slice none 0 0))],[],some 5,false,[],none⟩),
   (138, ⟨1, 24,false,[.d (.v (.slice none 0 0))],[],some 106,false,[],none⟩),
   (2, ⟨1, 8,false,[.d (.v (.int .i64 (0)))],[],none,false,[],none⟩),(3, ⟨1, 8,false,[.d (.v (.int .i64 (0)))],[],none,false,[],none⟩),
   (4, ⟨1, 1,false,[.d (.v (.bool false))],[],none,false,[],none⟩),
   (5, ⟨1, 1,false,[.d (.v (.int .u8 (0)))],[],none,false,[],none⟩),
   (7, ⟨4, 24,true,[.d (.v (.int .i64 (0))),.d (.v (.int .i64 (0))),.d (.v (.bool false)),.d (.v (.int .u8 (0)))],[(0, 1),(1, 1),(2, 1),(3, 1)],none,false,[2, 3, 4, 6],none⟩),
   (9, ⟨1, 16,false,[.d (.v (.string ⟨#[]⟩))],[],none,true,[],none⟩),
   (12, ⟨1, 8,false,[.d (.v (.int .u64 (0)))],[],none,false,[],none⟩),
   (13, ⟨2, 24,true,[.d (.v (.string ⟨#[]⟩)),.d (.v (.int .u64 (0)))],[(0, 1),(1, 1)],none,false,[9, 12],none⟩),
   (21, ⟨1, 4,false,[.d (.v (.int .i32 (0)))],[],none,false,[],none⟩),
   (28, ⟨3, 40,true,[.d (.v (.bool false)),.d (.v (.string ⟨#[]⟩)),.d (.v (.string ⟨#[]⟩))],[(0, 1),(1, 1),(2, 1)],none,false,[4, 9, 9],none⟩),
   (30, ⟨6, 80,true,[.d (.v (.bool false)),.d (.v (.string ⟨#[]⟩)),.d (.v (.string ⟨#[]⟩)),.d (.v (.bool false)),.d (.v (.string ⟨#[]⟩)),.d (.v (.string ⟨#[]⟩))],[(0, 3),(3, 3)],none,false,[29, 29],none⟩),
   (34, ⟨2, 16,true,[.d (.v (.int .i64 (0))),.d (.v (.int .i64 (0)))],[(0, 1),(1, 1)],none,false,[3, 3],none⟩),
   (38, ⟨1, 8,false,[.d (.v (.nilFunc))],[],none,false,[],none⟩),(56, ⟨12, 160,true,[.d (.v (.bool false)),.d (.v (.string ⟨#[]⟩)),.d (.v (.string ⟨#[]⟩)),.d (.v (.bool false)),.d (.v (.string ⟨#[]⟩)),.d (.v (.string ⟨#[]⟩)),.d (.v (.bool false)),.d (.v (.string ⟨#[]⟩)),.d (.v (.string ⟨#[]⟩)),.d (.v (.bool false)),.d (.v (.string ⟨#[]⟩)),.d (.v (.string ⟨#[]⟩))],[(0, 6),(6, 6)],none,false,[31, 31],none⟩),
   (75, ⟨1, 8,false,[.d (.v (.int .u64 (0)))],[],none,false,[],none⟩),
   (97, ⟨1, 8,false,[.d (.v (.int .i64 (0)))],[],none,false,[],none⟩),
   (104, ⟨1, 4,false,[.d (.v (.int .u32 (0)))],[],none,false,[],none⟩),
   (106, ⟨1, 8,false,[.d (.v (.int .u64 (0)))],[],none,false,[],none⟩),
   (125, ⟨1, 8,false,[.d (.v (.int .u64 (0)))],[],none,false,[],none⟩),
   (137, ⟨8, 8,true,[.d (.v (.int .u8 (0))),.d (.v (.int .u8 (0))),.d (.v (.int .u8 (0))),.d (.v (.int .u8 (0))),.d (.v (.int .u8 (0))),.d (.v (.int .u8 (0))),.d (.v (.int .u8 (0))),.d (.v (.int .u8 (0)))],[],none,false,[],some (8, 5)⟩)]
theorem TBall.mem {P : Program} {L : List (Nat × Ty)} (h : TBall P L) {e : Nat × Ty} (he : e ∈ L) : tyOf P e.1 = some e.2 := by
  induction L with
  | nil => simp at he
  | cons x r ih =>
    rcases List.mem_cons.1 he with rfl | he
    · exact h.1
    · exact ih h.2 he
set_option maxRecDepth 100000 in
theorem ZlK : TB = TB0 ++ TB1 ++ TB2 := by kernel_rfl
theorem Zho : TBok Tryd.prog TB := by
  intro t ty h
  rw [ZlK] at h
  simp only [List.mem_append] at h
  rcases h with (h | h) | h
  · exact TBall.mem (e := (t, ty)) Zlc h
  · exact TBall.mem (e := (t, ty)) Zlb h
  · exact TBall.mem (e := (t, ty)) Zla h
def prmOf (P : Program) (nt : Nat) : Prm := ⟨P, Tab, TB, ⟨nt,[],false⟩,[]⟩
def prmOwn (P : Program) (nt : Nat) (own : List Nat) : Prm := ⟨P, Tab, TB, ⟨nt,[],false⟩, own⟩
def prmL (P : Program) (nt i : Nat) (own : List Nat) : Prm := ⟨P, Tab, TB, ⟨nt,[i],false⟩, own⟩
theorem mixed : Tryd.prog.follows .mixedOrders = true := by kernel_rfl
end Go.Proofs.YtncoimmjjfmhdaaDoor.eng
