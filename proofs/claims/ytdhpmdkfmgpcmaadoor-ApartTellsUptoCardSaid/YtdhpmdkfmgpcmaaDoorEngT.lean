/- The engine at this program: the table of its types, and that it is the program's. Printed by wip/gen_tb.py. -/
import Derived.Test.YtdhpmdkfmgpcmaaDoorEng
import Derived.Test.YtdhpmdkfmgpcmaaDoorTab
import Derived.Test.YtdhpmdkfmgpcmaaDoorSeg
namespace Go.Proofs.YtdhpmdkfmgpcmaaDoor.eng
open Go.RowKit mem seg
def TB0 : List (Nat × Ty) :=
  [(23, ⟨3, 40, true, [.d (.v (.bool false)), .d (.v (.string ⟨#[]⟩)), .d (.v (.string ⟨#[]⟩))], [(0, 1), (1, 1), (2, 1)], none, false, [4, 9, 9]⟩),
   (25, ⟨1, 8, false, [.d (.v (.int .i64 (0)))], [], none, false, []⟩),
   (43, ⟨6, 80, true, [.d (.v (.bool false)), .d (.v (.string ⟨#[]⟩)), .d (.v (.string ⟨#[]⟩)), .d (.v (.bool false)), .d (.v (.string ⟨#[]⟩)), .d (.v (.string ⟨#[]⟩))], [(0, 3), (3, 3)], none, false, [23, 23]⟩),
   (48, ⟨12, 160, true, [.d (.v (.bool false)), .d (.v (.string ⟨#[]⟩)), .d (.v (.string ⟨#[]⟩)), .d (.v (.bool false)), .d (.v (.string ⟨#[]⟩)), .d (.v (.string ⟨#[]⟩)), .d (.v (.bool false)), .d (.v (.string ⟨#[]⟩)), .d (.v (.string ⟨#[]⟩)), .d (.v (.bool false)), .d (.v (.string ⟨#[]⟩)), .d (.v (.string ⟨#[]⟩))], [(0, 6), (6, 6)], none, false, [43, 43]⟩),
   (80, ⟨6, 80, true, [.d (.v (.bool false)), .d (.v (.string ⟨#[]⟩)), .d (.v (.string ⟨#[]⟩)), .d (.v (.bool false)), .d (.v (.string ⟨#[]⟩)), .d (.v (.string ⟨#[]⟩))], [(0, 3), (3, 3)], none, false, [23, 23]⟩),
   (24, ⟨1, 24, false, [.d (.v (.slice none 0 0))], [], some 23, false, []⟩),
   (31, ⟨1, 24, false, [.d (.v (.slice none 0 0))], [], some 37, false, []⟩),
   (34, ⟨1, 24, false, [.d (.v (.slice none 0 0))], [], some 151, false, []⟩),
   (41, ⟨1, 24, false, [.d (.v (.slice none 0 0))], [], some 43, false, []⟩),
   (95, ⟨1, 24, false, [.d (.v (.slice none 0 0))], [], some 3, false, []⟩),
   (124, ⟨1, 24, false, [.d (.v (.slice none 0 0))], [], some 5, false, []⟩),
   (133, ⟨1, 24, false, [.d (.v (.slice none 0 0))], [], some 80, false, []⟩)]
def TB1 : List (Nat × Ty) :=
  [(159, ⟨1, 24, false, [.d (.v (.slice none 0 0))], [], some 78, false, []⟩),
   (180, ⟨1, 24, false, [.d (.v (.slice none 0 0))], [], some 24, false, []⟩),
   (2, ⟨1, 8, false, [.d (.v (.int .i64 (0)))], [], none, false, []⟩),
   (3, ⟨1, 8, false, [.d (.v (.int .i64 (0)))], [], none, false, []⟩),
   (4, ⟨1, 1, false, [.d (.v (.bool false))], [], none, false, []⟩),
   (5, ⟨1, 1, false, [.d (.v (.int .u8 (0)))], [], none, false, []⟩),
   (7, ⟨4, 24, true, [.d (.v (.int .i64 (0))), .d (.v (.int .i64 (0))), .d (.v (.bool false)), .d (.v (.int .u8 (0)))], [(0, 1), (1, 1), (2, 1), (3, 1)], none, false, [2, 3, 4, 6]⟩),
   (9, ⟨1, 16, false, [.d (.v (.string ⟨#[]⟩))], [], none, true, []⟩),
   (12, ⟨1, 8, false, [.d (.v (.int .u64 (0)))], [], none, false, []⟩),
   (13, ⟨2, 24, true, [.d (.v (.string ⟨#[]⟩)), .d (.v (.int .u64 (0)))], [(0, 1), (1, 1)], none, false, [9, 12]⟩),
   (21, ⟨1, 4, false, [.d (.v (.int .i32 (0)))], [], none, false, []⟩),
   (22, ⟨3, 40, true, [.d (.v (.bool false)), .d (.v (.string ⟨#[]⟩)), .d (.v (.string ⟨#[]⟩))], [(0, 1), (1, 1), (2, 1)], none, false, [4, 9, 9]⟩)]
def TB2 : List (Nat × Ty) :=
  [(35, ⟨1, 24, false, [.d (.v (.slice none 0 0))], [], some 151, false, []⟩),
   (36, ⟨3, 56, true, [.d (.v (.bool false)), .d (.v (.slice none 0 0)), .d (.v (.slice none 0 0))], [(0, 1), (1, 1), (2, 1)], none, false, [4, 35, 35]⟩),
   (37, ⟨3, 56, true, [.d (.v (.bool false)), .d (.v (.slice none 0 0)), .d (.v (.slice none 0 0))], [(0, 1), (1, 1), (2, 1)], none, false, [4, 35, 35]⟩),
   (42, ⟨6, 80, true, [.d (.v (.bool false)), .d (.v (.string ⟨#[]⟩)), .d (.v (.string ⟨#[]⟩)), .d (.v (.bool false)), .d (.v (.string ⟨#[]⟩)), .d (.v (.string ⟨#[]⟩))], [(0, 3), (3, 3)], none, false, [23, 23]⟩),
   (47, ⟨12, 160, true, [.d (.v (.bool false)), .d (.v (.string ⟨#[]⟩)), .d (.v (.string ⟨#[]⟩)), .d (.v (.bool false)), .d (.v (.string ⟨#[]⟩)), .d (.v (.string ⟨#[]⟩)), .d (.v (.bool false)), .d (.v (.string ⟨#[]⟩)), .d (.v (.string ⟨#[]⟩)), .d (.v (.bool false)), .d (.v (.string ⟨#[]⟩)), .d (.v (.string ⟨#[]⟩))], [(0, 6), (6, 6)], none, false, [43, 43]⟩),
   (70, ⟨3, 40, true, [.d (.v (.bool false)), .d (.v (.string ⟨#[]⟩)), .d (.v (.string ⟨#[]⟩))], [(0, 1), (1, 1), (2, 1)], none, false, [4, 9, 9]⟩),
   (71, ⟨3, 40, true, [.d (.v (.bool false)), .d (.v (.string ⟨#[]⟩)), .d (.v (.string ⟨#[]⟩))], [(0, 1), (1, 1), (2, 1)], none, false, [4, 9, 9]⟩),
   (78, ⟨1, 8, false, [.d (.v (.int .u64 (0)))], [], none, false, []⟩),
   (79, ⟨6, 80, true, [.d (.v (.bool false)), .d (.v (.string ⟨#[]⟩)), .d (.v (.string ⟨#[]⟩)), .d (.v (.bool false)), .d (.v (.string ⟨#[]⟩)), .d (.v (.string ⟨#[]⟩))], [(0, 3), (3, 3)], none, false, [23, 23]⟩),
   (83, ⟨1, 8, false, [.d (.v (.int .u64 (0)))], [], none, false, []⟩),
   (151, ⟨1, 4, false, [.d (.v (.int .u32 (0)))], [], none, false, []⟩),
   (181, ⟨1, 24, false, [.d (.v (.slice none 0 0))], [], some 24, false, []⟩)]
def TB3 : List (Nat × Ty) :=
  [(221, ⟨1, 8, false, [.d (.v (.int .i64 (0)))], [], none, false, []⟩),
   (241, ⟨1, 8, false, [.d (.v (.int .u64 (0)))], [], none, false, []⟩),
   (253, ⟨2, 2, true, [.d (.v (.int .u8 (0))), .d (.v (.int .u8 (0)))], [(0, 1), (1, 1)], none, false, [5, 5]⟩),
   (254, ⟨2, 2, true, [.d (.v (.int .u8 (0))), .d (.v (.int .u8 (0)))], [(0, 1), (1, 1)], none, false, [5, 5]⟩)]
def TBall (P : Program) : List (Nat × Ty) → Prop
  | [] => True
  | e :: r => tyOf P e.1 = some e.2 ∧ TBall P r
set_option maxRecDepth 100000 in
theorem tb0_ok : TBall Tryd.prog TB0 :=
  ⟨by kernel_rfl, by kernel_rfl, by kernel_rfl, by kernel_rfl, by kernel_rfl, by kernel_rfl, by kernel_rfl, by kernel_rfl, by kernel_rfl, by kernel_rfl, by kernel_rfl, by kernel_rfl, trivial⟩
set_option maxRecDepth 100000 in
theorem tb1_ok : TBall Tryd.prog TB1 :=
  ⟨by kernel_rfl, by kernel_rfl, by kernel_rfl, by kernel_rfl, by kernel_rfl, by kernel_rfl, by kernel_rfl, by kernel_rfl, by kernel_rfl, by kernel_rfl, by kernel_rfl, by kernel_rfl, trivial⟩
set_option maxRecDepth 100000 in
theorem tb2_ok : TBall Tryd.prog TB2 :=
  ⟨by kernel_rfl, by kernel_rfl, by kernel_rfl, by kernel_rfl, by kernel_rfl, by kernel_rfl, by kernel_rfl, by kernel_rfl, by kernel_rfl, by kernel_rfl, by kernel_rfl, by kernel_rfl, trivial⟩
set_option maxRecDepth 100000 in
theorem tb3_ok : TBall Tryd.prog TB3 :=
  ⟨by kernel_rfl, by kernel_rfl, by kernel_rfl, by kernel_rfl, trivial⟩
def TB : List (Nat × Ty) := [(23, ⟨3, 40, true, [.d (.v (.bool false)), .d (.v (.string ⟨#[]⟩)), .d (.v (.string ⟨#[]⟩))], [(0, 1), (1, 1), (2, 1)], none, false, [4, 9, 9]⟩),
   (25, ⟨1, 8, false, [.d (.v (.int .i64 (0)))], [], none, false, []⟩),
   (43, ⟨6, 80, true, [.d (.v (.bool false)), .d (.v (.string ⟨#[]⟩)), .d (.v (.string ⟨#[]⟩)), .d (.v (.bool false)), .d (.v (.string ⟨#[]⟩)), .d (.v (.string ⟨#[]⟩))], [(0, 3), (3, 3)], none, false, [23, 23]⟩),
   (48, ⟨12, 160, true, [.d (.v (.bool false)), .d (.v (.string ⟨#[]⟩)), .d (.v (.string ⟨#[]⟩)), .d (.v (.bool false)), .d (.v (.string ⟨#[]⟩)), .d (.v (.string ⟨#[]⟩)), .d (.v (.bool false)), .d (.v (.string ⟨#[]⟩)), .d (.v (.string ⟨#[]⟩)), .d (.v (.bool false)), .d (.v (.string ⟨#[]⟩)), .d (.v (.string ⟨#[]⟩))], [(0, 6), (6, 6)], none, false, [43, 43]⟩),
   (80, ⟨6, 80, true, [.d (.v (.bool false)), .d (.v (.string ⟨#[]⟩)), .d (.v (.string ⟨#[]⟩)), .d (.v (.bool false)), .d (.v (.string ⟨#[]⟩)), .d (.v (.string ⟨#[]⟩))], [(0, 3), (3, 3)], none, false, [23, 23]⟩),
   (24, ⟨1, 24, false, [.d (.v (.slice none 0 0))], [], some 23, false, []⟩),
   (31, ⟨1, 24, false, [.d (.v (.slice none 0 0))], [], some 37, false, []⟩),
   (34, ⟨1, 24, false, [.d (.v (.slice none 0 0))], [], some 151, false, []⟩),
   (41, ⟨1, 24, false, [.d (.v (.slice none 0 0))], [], some 43, false, []⟩),
   (95, ⟨1, 24, false, [.d (.v (.slice none 0 0))], [], some 3, false, []⟩),
   (124, ⟨1, 24, false, [.d (.v (.slice none 0 0))], [], some 5, false, []⟩),
   (133, ⟨1, 24, false, [.d (.v (.slice none 0 0))], [], some 80, false, []⟩), (159, ⟨1, 24, false, [.d (.v (.slice none 0 0))], [], some 78, false, []⟩),
   (180, ⟨1, 24, false, [.d (.v (.slice none 0 0))], [], some 24, false, []⟩),
   (2, ⟨1, 8, false, [.d (.v (.int .i64 (0)))], [], none, false, []⟩),
   (3, ⟨1, 8, false, [.d (.v (.int .i64 (0)))], [], none, false, []⟩),
   (4, ⟨1, 1, false, [.d (.v (.bool false))], [], none, false, []⟩),
   (5, ⟨1, 1, false, [.d (.v (.int .u8 (0)))], [], none, false, []⟩),
   (7, ⟨4, 24, true, [.d (.v (.int .i64 (0))), .d (.v (.int .i64 (0))), .d (.v (.bool false)), .d (.v (.int .u8 (0)))], [(0, 1), (1, 1), (2, 1), (3, 1)], none, false, [2, 3, 4, 6]⟩),
   (9, ⟨1, 16, false, [.d (.v (.string ⟨#[]⟩))], [], none, true, []⟩),
   (12, ⟨1, 8, false, [.d (.v (.int .u64 (0)))], [], none, false, []⟩),
   (13, ⟨2, 24, true, [.d (.v (.string ⟨#[]⟩)), .d (.v (.int .u64 (0)))], [(0, 1), (1, 1)], none, false, [9, 12]⟩),
   (21, ⟨1, 4, false, [.d (.v (.int .i32 (0)))], [], none, false, []⟩),
   (22, ⟨3, 40, true, [.d (.v (.bool false)), .d (.v (.string ⟨#[]⟩)), .d (.v (.string ⟨#[]⟩))], [(0, 1), (1, 1), (2, 1)], none, false, [4, 9, 9]⟩), (35, ⟨1, 24, false, [.d (.v (.slice none 0 0))], [], some 151, false, []⟩),
   (36, ⟨3, 56, true, [.d (.v (.bool false)), .d (.v (.slice none 0 0)), .d (.v (.slice none 0 0))], [(0, 1), (1, 1), (2, 1)], none, false, [4, 35, 35]⟩),
   (37, ⟨3, 56, true, [.d (.v (.bool false)), .d (.v (.slice none 0 0)), .d (.v (.slice none 0 0))], [(0, 1), (1, 1), (2, 1)], none, false, [4, 35, 35]⟩),
   (42, ⟨6, 80, true, [.d (.v (.bool false)), .d (.v (.string ⟨#[]⟩)), .d (.v (.string ⟨#[]⟩)), .d (.v (.bool false)), .d (.v (.string ⟨#[]⟩)), .d (.v (.string ⟨#[]⟩))], [(0, 3), (3, 3)], none, false, [23, 23]⟩),
   (47, ⟨12, 160, true, [.d (.v (.bool false)), .d (.v (.string ⟨#[]⟩)), .d (.v (.string ⟨#[]⟩)), .d (.v (.bool false)), .d (.v (.string ⟨#[]⟩)), .d (.v (.string ⟨#[]⟩)), .d (.v (.bool false)), .d (.v (.string ⟨#[]⟩)), .d (.v (.string ⟨#[]⟩)), .d (.v (.bool false)), .d (.v (.string ⟨#[]⟩)), .d (.v (.string ⟨#[]⟩))], [(0, 6), (6, 6)], none, false, [43, 43]⟩),
   (70, ⟨3, 40, true, [.d (.v (.bool false)), .d (.v (.string ⟨#[]⟩)), .d (.v (.string ⟨#[]⟩))], [(0, 1), (1, 1), (2, 1)], none, false, [4, 9, 9]⟩),
   (71, ⟨3, 40, true, [.d (.v (.bool false)), .d (.v (.string ⟨#[]⟩)), .d (.v (.string ⟨#[]⟩))], [(0, 1), (1, 1), (2, 1)], none, false, [4, 9, 9]⟩),
   (78, ⟨1, 8, false, [.d (.v (.int .u64 (0)))], [], none, false, []⟩),
   (79, ⟨6, 80, true, [.d (.v (.bool false)), .d (.v (.string ⟨#[]⟩)), .d (.v (.string ⟨#[]⟩)), .d (.v (.bool false)), .d (.v (.string ⟨#[]⟩)), .d (.v (.string ⟨#[]⟩))], [(0, 3), (3, 3)], none, false, [23, 23]⟩),
   (83, ⟨1, 8, false, [.d (.v (.int .u64 (0)))], [], none, false, []⟩),
   (151, ⟨1, 4, false, [.d (.v (.int .u32 (0)))], [], none, false, []⟩),
   (181, ⟨1, 24, false, [.d (.v (.slice none 0 0))], [], some 24, false, []⟩), (221, ⟨1, 8, false, [.d (.v (.int .i64 (0)))], [], none, false, []⟩),
   (241, ⟨1, 8, false, [.d (.v (.int .u64 (0)))], [], none, false, []⟩),
   (253, ⟨2, 2, true, [.d (.v (.int .u8 (0))), .d (.v (.int .u8 (0)))], [(0, 1), (1, 1)], none, false, [5, 5]⟩),
   (254, ⟨2, 2, true, [.d (.v (.int .u8 (0))), .d (.v (.int .u8 (0)))], [(0, 1), (1, 1)], none, false, [5, 5]⟩)]
theorem TBall.mem {P : Program} {L : List (Nat × Ty)} (h : TBall P L) {e : Nat × Ty} (he : e ∈ L) : tyOf P e.1 = some e.2 := by
  induction L with
  | nil => simp at he
  | cons x r ih =>
    rcases List.mem_cons.1 he with rfl | he
    · exact h.1
    · exact ih h.2 he
set_option maxRecDepth 100000 in
theorem tb_eq : TB = TB0 ++ TB1 ++ TB2 ++ TB3 := by kernel_rfl
theorem tb_ok : TBok Tryd.prog TB := by
  intro t ty h
  rw [tb_eq] at h
  simp only [List.mem_append] at h
  rcases h with ((h | h) | h) | h
  · exact TBall.mem (e := (t, ty)) tb0_ok h
  · exact TBall.mem (e := (t, ty)) tb1_ok h
  · exact TBall.mem (e := (t, ty)) tb2_ok h
  · exact TBall.mem (e := (t, ty)) tb3_ok h
def prmOf (P : Program) (nt : Nat) : Prm := ⟨P, Tab, TB, nt⟩
theorem mixed : Tryd.prog.follows .mixedOrders = true := by kernel_rfl
end Go.Proofs.YtdhpmdkfmgpcmaaDoor.eng
