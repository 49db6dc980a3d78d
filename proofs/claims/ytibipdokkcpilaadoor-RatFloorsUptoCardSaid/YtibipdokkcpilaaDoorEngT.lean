/- The engine at this program: the table of its types, and that it is the program's. Printed by wip/gen_tb.py. -/
import Derived.Test.YtibipdokkcpilaaDoorEng
import Derived.Test.YtibipdokkcpilaaDoorTab
import Derived.Test.YtibipdokkcpilaaDoorSeg
namespace Go.Proofs.YtibipdokkcpilaaDoor.eng
open Go.RowKit mem seg
def TB0 : List (Nat × Ty) :=
  [(23, ⟨3, 40, true, [.d (.v (.bool false)), .d (.v (.string ⟨#[]⟩)), .d (.v (.string ⟨#[]⟩))], [(0, 1), (1, 1), (2, 1)], none, false, [4, 9, 9]⟩),
   (25, ⟨6, 80, true, [.d (.v (.bool false)), .d (.v (.string ⟨#[]⟩)), .d (.v (.string ⟨#[]⟩)), .d (.v (.bool false)), .d (.v (.string ⟨#[]⟩)), .d (.v (.string ⟨#[]⟩))], [(0, 3), (3, 3)], none, false, [23, 23]⟩),
   (27, ⟨12, 160, true, [.d (.v (.bool false)), .d (.v (.string ⟨#[]⟩)), .d (.v (.string ⟨#[]⟩)), .d (.v (.bool false)), .d (.v (.string ⟨#[]⟩)), .d (.v (.string ⟨#[]⟩)), .d (.v (.bool false)), .d (.v (.string ⟨#[]⟩)), .d (.v (.string ⟨#[]⟩)), .d (.v (.bool false)), .d (.v (.string ⟨#[]⟩)), .d (.v (.string ⟨#[]⟩))], [(0, 6), (6, 6)], none, false, [25, 25]⟩),
   (34, ⟨1, 8, false, [.d (.v (.int .i64 (0)))], [], none, false, []⟩),
   (66, ⟨6, 80, true, [.d (.v (.bool false)), .d (.v (.string ⟨#[]⟩)), .d (.v (.string ⟨#[]⟩)), .d (.v (.bool false)), .d (.v (.string ⟨#[]⟩)), .d (.v (.string ⟨#[]⟩))], [(0, 3), (3, 3)], none, false, [23, 23]⟩),
   (73, ⟨1, 24, false, [.d (.v (.slice none 0 0))], [], some 23, false, []⟩),
   (77, ⟨1, 24, false, [.d (.v (.slice none 0 0))], [], some 25, false, []⟩),
   (85, ⟨1, 24, false, [.d (.v (.slice none 0 0))], [], some 3, false, []⟩),
   (93, ⟨1, 24, false, [.d (.v (.slice none 0 0))], [], some 5, false, []⟩),
   (105, ⟨1, 24, false, [.d (.v (.slice none 0 0))], [], some 66, false, []⟩),
   (113, ⟨1, 24, false, [.d (.v (.slice none 0 0))], [], some 115, false, []⟩),
   (118, ⟨1, 24, false, [.d (.v (.slice none 0 0))], [], some 64, false, []⟩)]
def TB1 : List (Nat × Ty) :=
  [(141, ⟨1, 24, false, [.d (.v (.slice none 0 0))], [], some 73, false, []⟩),
   (2, ⟨1, 8, false, [.d (.v (.int .i64 (0)))], [], none, false, []⟩),
   (3, ⟨1, 8, false, [.d (.v (.int .i64 (0)))], [], none, false, []⟩),
   (4, ⟨1, 1, false, [.d (.v (.bool false))], [], none, false, []⟩),
   (5, ⟨1, 1, false, [.d (.v (.int .u8 (0)))], [], none, false, []⟩),
   (7, ⟨4, 24, true, [.d (.v (.int .i64 (0))), .d (.v (.int .i64 (0))), .d (.v (.bool false)), .d (.v (.int .u8 (0)))], [(0, 1), (1, 1), (2, 1), (3, 1)], none, false, [2, 3, 4, 6]⟩),
   (9, ⟨1, 16, false, [.d (.v (.string ⟨#[]⟩))], [], none, true, []⟩),
   (12, ⟨1, 8, false, [.d (.v (.int .u64 (0)))], [], none, false, []⟩),
   (13, ⟨2, 24, true, [.d (.v (.string ⟨#[]⟩)), .d (.v (.int .u64 (0)))], [(0, 1), (1, 1)], none, false, [9, 12]⟩),
   (21, ⟨1, 4, false, [.d (.v (.int .i32 (0)))], [], none, false, []⟩),
   (22, ⟨3, 40, true, [.d (.v (.bool false)), .d (.v (.string ⟨#[]⟩)), .d (.v (.string ⟨#[]⟩))], [(0, 1), (1, 1), (2, 1)], none, false, [4, 9, 9]⟩),
   (24, ⟨6, 80, true, [.d (.v (.bool false)), .d (.v (.string ⟨#[]⟩)), .d (.v (.string ⟨#[]⟩)), .d (.v (.bool false)), .d (.v (.string ⟨#[]⟩)), .d (.v (.string ⟨#[]⟩))], [(0, 3), (3, 3)], none, false, [23, 23]⟩)]
def TB2 : List (Nat × Ty) :=
  [(26, ⟨12, 160, true, [.d (.v (.bool false)), .d (.v (.string ⟨#[]⟩)), .d (.v (.string ⟨#[]⟩)), .d (.v (.bool false)), .d (.v (.string ⟨#[]⟩)), .d (.v (.string ⟨#[]⟩)), .d (.v (.bool false)), .d (.v (.string ⟨#[]⟩)), .d (.v (.string ⟨#[]⟩)), .d (.v (.bool false)), .d (.v (.string ⟨#[]⟩)), .d (.v (.string ⟨#[]⟩))], [(0, 6), (6, 6)], none, false, [25, 25]⟩),
   (31, ⟨3, 40, true, [.d (.v (.bool false)), .d (.v (.string ⟨#[]⟩)), .d (.v (.string ⟨#[]⟩))], [(0, 1), (1, 1), (2, 1)], none, false, [4, 9, 9]⟩),
   (32, ⟨3, 40, true, [.d (.v (.bool false)), .d (.v (.string ⟨#[]⟩)), .d (.v (.string ⟨#[]⟩))], [(0, 1), (1, 1), (2, 1)], none, false, [4, 9, 9]⟩),
   (64, ⟨1, 8, false, [.d (.v (.int .u64 (0)))], [], none, false, []⟩),
   (65, ⟨6, 80, true, [.d (.v (.bool false)), .d (.v (.string ⟨#[]⟩)), .d (.v (.string ⟨#[]⟩)), .d (.v (.bool false)), .d (.v (.string ⟨#[]⟩)), .d (.v (.string ⟨#[]⟩))], [(0, 3), (3, 3)], none, false, [23, 23]⟩),
   (69, ⟨1, 8, false, [.d (.v (.int .u64 (0)))], [], none, false, []⟩),
   (115, ⟨1, 4, false, [.d (.v (.int .u32 (0)))], [], none, false, []⟩),
   (142, ⟨1, 24, false, [.d (.v (.slice none 0 0))], [], some 73, false, []⟩),
   (194, ⟨2, 2, true, [.d (.v (.int .u8 (0))), .d (.v (.int .u8 (0)))], [(0, 1), (1, 1)], none, false, [5, 5]⟩),
   (195, ⟨2, 2, true, [.d (.v (.int .u8 (0))), .d (.v (.int .u8 (0)))], [(0, 1), (1, 1)], none, false, [5, 5]⟩)]
def TBall (P : Program) : List (Nat × Ty) → Prop
  | [] => True
  | e :: r => tyOf P e.1 = some e.2 ∧ TBall P r
set_option maxRecDepth 100000 in
theorem tb0_ok : TBall Tryd.prog TB0 :=
  ⟨by kernel_rfl, by kernel_rfl, by kernel_rfl, by kernel_rfl, by kernel_rfl, by kernel_rfl, by kernel_rfl, by kernel_rfl, by kernel_rfl, by kernel_rfl, by kernel_rfl, by kernel_rfl, trivial⟩
set_option maxRecDepth 100000 in
theorem tb1_ok : TBall Tryd.prog TB1 :=
  ⟨by kernel_rfl, by kernel_rfl, by kernel_rfl, by kernel_rfl, by kernel_rfl, by kernel_rfl, by kernel_rfl, by kernel_rfl, by kernel_rfl, by kernel_rfl, by kernel_rfl, by kernel_rfl, trivial⟩
set_option maxRecDepth 100000 in
theorem tb2_ok : TBall Tryd.prog TB2 :=
  ⟨by kernel_rfl, by kernel_rfl, by kernel_rfl, by kernel_rfl, by kernel_rfl, by kernel_rfl, by kernel_rfl, by kernel_rfl, by kernel_rfl, by kernel_rfl, trivial⟩
def TB : List (Nat × Ty) := [(23, ⟨3, 40, true, [.d (.v (.bool false)), .d (.v (.string ⟨#[]⟩)), .d (.v (.string ⟨#[]⟩))], [(0, 1), (1, 1), (2, 1)], none, false, [4, 9, 9]⟩),
   (25, ⟨6, 80, true, [.d (.v (.bool false)), .d (.v (.string ⟨#[]⟩)), .d (.v (.string ⟨#[]⟩)), .d (.v (.bool false)), .d (.v (.string ⟨#[]⟩)), .d (.v (.string ⟨#[]⟩))], [(0, 3), (3, 3)], none, false, [23, 23]⟩),
   (27, ⟨12, 160, true, [.d (.v (.bool false)), .d (.v (.string ⟨#[]⟩)), .d (.v (.string ⟨#[]⟩)), .d (.v (.bool false)), .d (.v (.string ⟨#[]⟩)), .d (.v (.string ⟨#[]⟩)), .d (.v (.bool false)), .d (.v (.string ⟨#[]⟩)), .d (.v (.string ⟨#[]⟩)), .d (.v (.bool false)), .d (.v (.string ⟨#[]⟩)), .d (.v (.string ⟨#[]⟩))], [(0, 6), (6, 6)], none, false, [25, 25]⟩),
   (34, ⟨1, 8, false, [.d (.v (.int .i64 (0)))], [], none, false, []⟩),
   (66, ⟨6, 80, true, [.d (.v (.bool false)), .d (.v (.string ⟨#[]⟩)), .d (.v (.string ⟨#[]⟩)), .d (.v (.bool false)), .d (.v (.string ⟨#[]⟩)), .d (.v (.string ⟨#[]⟩))], [(0, 3), (3, 3)], none, false, [23, 23]⟩),
   (73, ⟨1, 24, false, [.d (.v (.slice none 0 0))], [], some 23, false, []⟩),
   (77, ⟨1, 24, false, [.d (.v (.slice none 0 0))], [], some 25, false, []⟩),
   (85, ⟨1, 24, false, [.d (.v (.slice none 0 0))], [], some 3, false, []⟩),
   (93, ⟨1, 24, false, [.d (.v (.slice none 0 0))], [], some 5, false, []⟩),
   (105, ⟨1, 24, false, [.d (.v (.slice none 0 0))], [], some 66, false, []⟩),
   (113, ⟨1, 24, false, [.d (.v (.slice none 0 0))], [], some 115, false, []⟩),
   (118, ⟨1, 24, false, [.d (.v (.slice none 0 0))], [], some 64, false, []⟩), (141, ⟨1, 24, false, [.d (.v (.slice none 0 0))], [], some 73, false, []⟩),
   (2, ⟨1, 8, false, [.d (.v (.int .i64 (0)))], [], none, false, []⟩),
   (3, ⟨1, 8, false, [.d (.v (.int .i64 (0)))], [], none, false, []⟩),
   (4, ⟨1, 1, false, [.d (.v (.bool false))], [], none, false, []⟩),
   (5, ⟨1, 1, false, [.d (.v (.int .u8 (0)))], [], none, false, []⟩),
   (7, ⟨4, 24, true, [.d (.v (.int .i64 (0))), .d (.v (.int .i64 (0))), .d (.v (.bool false)), .d (.v (.int .u8 (0)))], [(0, 1), (1, 1), (2, 1), (3, 1)], none, false, [2, 3, 4, 6]⟩),
   (9, ⟨1, 16, false, [.d (.v (.string ⟨#[]⟩))], [], none, true, []⟩),
   (12, ⟨1, 8, false, [.d (.v (.int .u64 (0)))], [], none, false, []⟩),
   (13, ⟨2, 24, true, [.d (.v (.string ⟨#[]⟩)), .d (.v (.int .u64 (0)))], [(0, 1), (1, 1)], none, false, [9, 12]⟩),
   (21, ⟨1, 4, false, [.d (.v (.int .i32 (0)))], [], none, false, []⟩),
   (22, ⟨3, 40, true, [.d (.v (.bool false)), .d (.v (.string ⟨#[]⟩)), .d (.v (.string ⟨#[]⟩))], [(0, 1), (1, 1), (2, 1)], none, false, [4, 9, 9]⟩),
   (24, ⟨6, 80, true, [.d (.v (.bool false)), .d (.v (.string ⟨#[]⟩)), .d (.v (.string ⟨#[]⟩)), .d (.v (.bool false)), .d (.v (.string ⟨#[]⟩)), .d (.v (.string ⟨#[]⟩))], [(0, 3), (3, 3)], none, false, [23, 23]⟩), (26, ⟨12, 160, true, [.d (.v (.bool false)), .d (.v (.string ⟨#[]⟩)), .d (.v (.string ⟨#[]⟩)), .d (.v (.bool false)), .d (.v (.string ⟨#[]⟩)), .d (.v (.string ⟨#[]⟩)), .d (.v (.bool false)), .d (.v (.string ⟨#[]⟩)), .d (.v (.string ⟨#[]⟩)), .d (.v (.bool false)), .d (.v (.string ⟨#[]⟩)), .d (.v (.string ⟨#[]⟩))], [(0, 6), (6, 6)], none, false, [25, 25]⟩),
   (31, ⟨3, 40, true, [.d (.v (.bool false)), .d (.v (.string ⟨#[]⟩)), .d (.v (.string ⟨#[]⟩))], [(0, 1), (1, 1), (2, 1)], none, false, [4, 9, 9]⟩),
   (32, ⟨3, 40, true, [.d (.v (.bool false)), .d (.v (.string ⟨#[]⟩)), .d (.v (.string ⟨#[]⟩))], [(0, 1), (1, 1), (2, 1)], none, false, [4, 9, 9]⟩),
   (64, ⟨1, 8, false, [.d (.v (.int .u64 (0)))], [], none, false, []⟩),
   (65, ⟨6, 80, true, [.d (.v (.bool false)), .d (.v (.string ⟨#[]⟩)), .d (.v (.string ⟨#[]⟩)), .d (.v (.bool false)), .d (.v (.string ⟨#[]⟩)), .d (.v (.string ⟨#[]⟩))], [(0, 3), (3, 3)], none, false, [23, 23]⟩),
   (69, ⟨1, 8, false, [.d (.v (.int .u64 (0)))], [], none, false, []⟩),
   (115, ⟨1, 4, false, [.d (.v (.int .u32 (0)))], [], none, false, []⟩),
   (142, ⟨1, 24, false, [.d (.v (.slice none 0 0))], [], some 73, false, []⟩),
   (194, ⟨2, 2, true, [.d (.v (.int .u8 (0))), .d (.v (.int .u8 (0)))], [(0, 1), (1, 1)], none, false, [5, 5]⟩),
   (195, ⟨2, 2, true, [.d (.v (.int .u8 (0))), .d (.v (.int .u8 (0)))], [(0, 1), (1, 1)], none, false, [5, 5]⟩)]
theorem TBall.mem {P : Program} {L : List (Nat × Ty)} (h : TBall P L) {e : Nat × Ty} (he : e ∈ L) : tyOf P e.1 = some e.2 := by
  induction L with
  | nil => simp at he
  | cons x r ih =>
    rcases List.mem_cons.1 he with rfl | he
    · exact h.1
    · exact ih h.2 he
set_option maxRecDepth 100000 in
theorem tb_eq : TB = TB0 ++ TB1 ++ TB2 := by kernel_rfl
theorem tb_ok : TBok Tryd.prog TB := by
  intro t ty h
  rw [tb_eq] at h
  simp only [List.mem_append] at h
  rcases h with (h | h) | h
  · exact TBall.mem (e := (t, ty)) tb0_ok h
  · exact TBall.mem (e := (t, ty)) tb1_ok h
  · exact TBall.mem (e := (t, ty)) tb2_ok h
def prmOf (P : Program) (nt : Nat) : Prm := ⟨P, Tab, TB, nt⟩
theorem mixed : Tryd.prog.follows .mixedOrders = true := by kernel_rfl
end Go.Proofs.YtibipdokkcpilaaDoor.eng
