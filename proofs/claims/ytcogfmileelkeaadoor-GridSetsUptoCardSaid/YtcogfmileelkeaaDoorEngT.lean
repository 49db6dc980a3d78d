/- The engine at this program: the table of its types, and that it is the program's. Printed by wip/gen_tb.py. -/
import Derived.Test.YtcogfmileelkeaaDoorEng
import Derived.Test.YtcogfmileelkeaaDoorTab
import Derived.Test.YtcogfmileelkeaaDoorSeg
namespace Go.Proofs.YtcogfmileelkeaaDoor.eng
open Go.RowKit mem seg
abbrev tzB : C := .d (.v (.bool false))
abbrev tzS : C := .d (.v (.string ⟨#[]⟩))
abbrev tzN : C := .d (.v (.slice none 0 0))
def TB : List (Nat × Ty) := [(25, ⟨2, 16,true,[.d (.v (.int .i64 (0))),.d (.v (.int .i64 (0)))],[(0, 1),(1, 1)],none,false,[3, 3],none⟩),
   (29, ⟨1, 8,false,[.d (.v (.int .i64 (0)))],[],none,false,[],none⟩),
   (36, ⟨3, 40,true,[tzB, tzS, tzS],[(0, 1),(1, 1),(2, 1)],none,false,[4, 9, 9],none⟩),
   (38, ⟨6, 80,true,[tzB, tzS, tzS, tzB, tzS, tzS],[(0, 3),(3, 3)],none,false,[36, 36],none⟩),
   (40, ⟨12, 160,true,[tzB, tzS, tzS, tzB, tzS, tzS, tzB, tzS, tzS, tzB, tzS, tzS],[(0, 6),(6, 6)],none,false,[38, 38],none⟩),
   (22, ⟨1, 24,false,[tzN],[],some 25,false,[],none⟩),
   (52, ⟨1, 24,false,[tzN],[],some 22,false,[],none⟩),
   (73, ⟨1, 24,false,[tzN],[],some 75,false,[],none⟩),
   (88, ⟨1, 24,false,[tzN],[],some 5,false,[],none⟩),
   (104, ⟨1, 24,false,[tzN],[],some 71,false,[],none⟩),
   (2, ⟨1, 8,false,[.d (.v (.int .i64 (0)))],[],none,false,[],none⟩),
   (3, ⟨1, 8,false,[.d (.v (.int .i64 (0)))],[],none,false,[],none⟩),(4, ⟨1, 1,false,[tzB],[],none,false,[],none⟩),
   (5, ⟨1, 1,false,[.d (.v (.int .u8 (0)))],[],none,false,[],none⟩),
   (7, ⟨4, 24,true,[.d (.v (.int .i64 (0))),.d (.v (.int .i64 (0))), tzB, .d (.v (.int .u8 (0)))],[(0, 1),(1, 1),(2, 1),(3, 1)],none,false,[2, 3, 4, 6],none⟩),
   (9, ⟨1, 16,false,[tzS],[],none,true,[],none⟩),
   (12, ⟨1, 8,false,[.d (.v (.int .u64 (0)))],[],none,false,[],none⟩),
   (13, ⟨2, 24,true,[tzS, .d (.v (.int .u64 (0)))],[(0, 1),(1, 1)],none,false,[9, 12],none⟩),
   (21, ⟨1, 4,false,[.d (.v (.int .i32 (0)))],[],none,false,[],none⟩),
   (24, ⟨2, 16,true,[.d (.v (.int .i64 (0))),.d (.v (.int .i64 (0)))],[(0, 1),(1, 1)],none,false,[3, 3],none⟩),
   (26, ⟨1, 8,false,[.d (.v (.nilFunc))],[],none,false,[],none⟩),
   (28, ⟨1, 8,false,[.d (.v (.nilFunc))],[],none,false,[],none⟩),
   (35, ⟨3, 40,true,[tzB, tzS, tzS],[(0, 1),(1, 1),(2, 1)],none,false,[4, 9, 9],none⟩),
   (37, ⟨6, 80,true,[tzB, tzS, tzS, tzB, tzS, tzS],[(0, 3),(3, 3)],none,false,[36, 36],none⟩),(39, ⟨12, 160,true,[tzB, tzS, tzS, tzB, tzS, tzS, tzB, tzS, tzS, tzB, tzS, tzS],[(0, 6),(6, 6)],none,false,[38, 38],none⟩),
   (66, ⟨1, 8,false,[.d (.v (.int .u64 (0)))],[],none,false,[],none⟩),
   (71, ⟨1, 8,false,[.d (.v (.int .u64 (0)))],[],none,false,[],none⟩),
   (75, ⟨1, 4,false,[.d (.v (.int .u32 (0)))],[],none,false,[],none⟩),
   (79, ⟨1, 8,false,[.d (.v (.int .i64 (0)))],[],none,false,[],none⟩),
   (87, ⟨8, 8,true,[.d (.v (.int .u8 (0))),.d (.v (.int .u8 (0))),.d (.v (.int .u8 (0))),.d (.v (.int .u8 (0))),.d (.v (.int .u8 (0))),.d (.v (.int .u8 (0))),.d (.v (.int .u8 (0))),.d (.v (.int .u8 (0)))],[],none,false,[],some (8, 5)⟩),
   (92, ⟨1, 8,false,[.d (.v (.int .u64 (0)))],[],none,false,[],none⟩)]
def TB0 : List (Nat × Ty) := (TB.drop 0).take 12
def TB1 : List (Nat × Ty) := (TB.drop 12).take 12
def TB2 : List (Nat × Ty) := (TB.drop 24).take 7
def TBall (P : Program) : List (Nat × Ty) → Prop
  | [] => True
  | e :: r => tyOf P e.1 = some e.2 ∧ TBall P r
set_option maxRecDepth 100000 in
theorem ZkM : TBall Tryd.prog TB0 :=
  ⟨by kernel_rfl, by kernel_rfl, by kernel_rfl, by kernel_rfl, by kernel_rfl, by kernel_rfl, by kernel_rfl, by kernel_rfl, by kernel_rfl, by kernel_rfl, by kernel_rfl, by kernel_rfl, trivial⟩
set_option maxRecDepth 100000 in
theorem ZkL : TBall Tryd.prog TB1 :=
  ⟨by kernel_rfl, by kernel_rfl, by kernel_rfl, by kernel_rfl, by kernel_rfl, by kernel_rfl, by kernel_rfl, by kernel_rfl, by kernel_rfl, by kernel_rfl, by kernel_rfl, by kernel_rfl, trivial⟩
set_option maxRecDepth 100000 in
theorem ZkK : TBall Tryd.prog TB2 :=
  ⟨by kernel_rfl, by kernel_rfl, by kernel_rfl, by kernel_rfl, by kernel_rfl, by kernel_rfl, by kernel_rfl, trivial⟩
theorem TBall.mem {P : Program} {L : List (Nat × Ty)} (h : TBall P L) {e : Nat × Ty} (he : e ∈ L) : tyOf P e.1 = some e.2 := by
  induction L with
  | nil => simp at he
  | cons x r ih =>
    rcases List.mem_cons.1 he with rfl | he
    · exact h.1
    · exact ih h.2 he
set_option maxRecDepth 100000 in
theorem Zln : TB = TB0 ++ TB1 ++ TB2 := by kernel_rfl
theorem ZeL : TBok Tryd.prog TB := by
  intro t ty h
  rw [Zln] at h
  simp only [List.mem_append] at h
  rcases h with (h | h) | h
  · exact TBall.mem (e := (t, ty)) ZkM h
  · exact TBall.mem (e := (t, ty)) ZkL h
  · exact TBall.mem (e := (t, ty)) ZkK h
def prmOf (P : Program) (nt : Nat) : Prm := ⟨P, Tab, TB, ⟨nt,[],false⟩,[]⟩
def prmOwn (P : Program) (nt : Nat) (own : List Nat) : Prm := ⟨P, Tab, TB, ⟨nt,[],false⟩, own⟩
def prmL (P : Program) (nt i : Nat) (own : List Nat) : Prm := ⟨P, Tab, TB, ⟨nt,[i],false⟩, own⟩
theorem mixed : Tryd.prog.follows .mixedOrders = true := by kernel_rfl
end Go.Proofs.YtcogfmileelkeaaDoor.eng
