/- The engine at this program: the table of its types, and that it is the program's. Printed by wip/gen_tb.py. -/
import Derived.Test.YtobeklcimmjodaaEng
import Derived.Test.YtobeklcimmjodaaProg
namespace Go.Proofs.Ytobeklcimmjodaa.eng
open Go.RowKit mem
abbrev Tab (_ : World) : Prop := True
def TB0 : List (Nat × Ty) :=
  [(23, ⟨1, 8, false, [.d (.v (.int .i64 (0)))], [], none, false, [], none⟩),
   (22, ⟨1, 24, false, [.d (.v (.slice none 0 0))], [], some 3, false, [], none⟩),
   (26, ⟨1, 24, false, [.d (.v (.slice none 0 0))], [], some 22, false, [], none⟩),
   (2, ⟨1, 8, false, [.d (.v (.int .i64 (0)))], [], none, false, [], none⟩),
   (3, ⟨1, 8, false, [.d (.v (.int .i64 (0)))], [], none, false, [], none⟩),
   (4, ⟨1, 1, false, [.d (.v (.bool false))], [], none, false, [], none⟩),
   (5, ⟨1, 1, false, [.d (.v (.int .u8 (0)))], [], none, false, [], none⟩),
   (7, ⟨4, 24, true, [.d (.v (.int .i64 (0))), .d (.v (.int .i64 (0))), .d (.v (.bool false)), .d (.v (.int .u8 (0)))], [(0, 1), (1, 1), (2, 1), (3, 1)], none, false, [2, 3, 4, 6], none⟩),
   (9, ⟨1, 16, false, [.d (.v (.string ⟨#[]⟩))], [], none, true, [], none⟩),
   (12, ⟨1, 8, false, [.d (.v (.int .u64 (0)))], [], none, false, [], none⟩),
   (13, ⟨2, 24, true, [.d (.v (.string ⟨#[]⟩)), .d (.v (.int .u64 (0)))], [(0, 1), (1, 1)], none, false, [9, 12], none⟩),
   (21, ⟨1, 4, false, [.d (.v (.int .i32 (0)))], [], none, false, [], none⟩)]
def TB1 : List (Nat × Ty) :=
  [(29, ⟨1, 8, false, [.d (.v (.nilFunc))], [], none, false, [], none⟩),
   (46, ⟨1, 4, false, [.d (.v (.int .u32 (0)))], [], none, false, [], none⟩)]
def TBall (P : Program) : List (Nat × Ty) → Prop
  | [] => True
  | e :: r => tyOf P e.1 = some e.2 ∧ TBall P r
set_option maxRecDepth 100000 in
theorem tb0_ok : TBall Try.prog TB0 :=
  ⟨by kernel_rfl, by kernel_rfl, by kernel_rfl, by kernel_rfl, by kernel_rfl, by kernel_rfl, by kernel_rfl, by kernel_rfl, by kernel_rfl, by kernel_rfl, by kernel_rfl, by kernel_rfl, trivial⟩
set_option maxRecDepth 100000 in
theorem tb1_ok : TBall Try.prog TB1 :=
  ⟨by kernel_rfl, by kernel_rfl, trivial⟩
def TB : List (Nat × Ty) := [(23, ⟨1, 8, false, [.d (.v (.int .i64 (0)))], [], none, false, [], none⟩),
   (22, ⟨1, 24, false, [.d (.v (.slice none 0 0))], [], some 3, false, [], none⟩),
   (26, ⟨1, 24, false, [.d (.v (.slice none 0 0))], [], some 22, false, [], none⟩),
   (2, ⟨1, 8, false, [.d (.v (.int .i64 (0)))], [], none, false, [], none⟩),
   (3, ⟨1, 8, false, [.d (.v (.int .i64 (0)))], [], none, false, [], none⟩),
   (4, ⟨1, 1, false, [.d (.v (.bool false))], [], none, false, [], none⟩),
   (5, ⟨1, 1, false, [.d (.v (.int .u8 (0)))], [], none, false, [], none⟩),
   (7, ⟨4, 24, true, [.d (.v (.int .i64 (0))), .d (.v (.int .i64 (0))), .d (.v (.bool false)), .d (.v (.int .u8 (0)))], [(0, 1), (1, 1), (2, 1), (3, 1)], none, false, [2, 3, 4, 6], none⟩),
   (9, ⟨1, 16, false, [.d (.v (.string ⟨#[]⟩))], [], none, true, [], none⟩),
   (12, ⟨1, 8, false, [.d (.v (.int .u64 (0)))], [], none, false, [], none⟩),
   (13, ⟨2, 24, true, [.d (.v (.string ⟨#[]⟩)), .d (.v (.int .u64 (0)))], [(0, 1), (1, 1)], none, false, [9, 12], none⟩),
   (21, ⟨1, 4, false, [.d (.v (.int .i32 (0)))], [], none, false, [], none⟩), (29, ⟨1, 8, false, [.d (.v (.nilFunc))], [], none, false, [], none⟩),
   (46, ⟨1, 4, false, [.d (.v (.int .u32 (0)))], [], none, false, [], none⟩)]
theorem TBall.mem {P : Program} {L : List (Nat × Ty)} (h : TBall P L) {e : Nat × Ty} (he : e ∈ L) : tyOf P e.1 = some e.2 := by
  induction L with
  | nil => simp at he
  | cons x r ih =>
    rcases List.mem_cons.1 he with rfl | he
    · exact h.1
    · exact ih h.2 he
set_option maxRecDepth 100000 in
theorem tb_eq : TB = TB0 ++ TB1 := by kernel_rfl
theorem tb_ok : TBok Try.prog TB := by
  intro t ty h
  rw [tb_eq] at h
  simp only [List.mem_append] at h
  rcases h with h | h
  · exact TBall.mem (e := (t, ty)) tb0_ok h
  · exact TBall.mem (e := (t, ty)) tb1_ok h
def prmOf (P : Program) (nt : Nat) : Prm := ⟨P, Tab, TB, ⟨nt, [], false⟩, []⟩
def prmOwn (P : Program) (nt : Nat) (own : List Nat) : Prm := ⟨P, Tab, TB, ⟨nt, [], false⟩, own⟩
def prmL (P : Program) (nt i : Nat) (own : List Nat) : Prm := ⟨P, Tab, TB, ⟨nt, [i], false⟩, own⟩
theorem mixed : Try.prog.follows .mixedOrders = true := by kernel_rfl
end Go.Proofs.Ytobeklcimmjodaa.eng
