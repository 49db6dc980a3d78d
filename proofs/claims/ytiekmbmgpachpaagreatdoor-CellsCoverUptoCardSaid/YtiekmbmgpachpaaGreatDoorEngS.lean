/- The engine at this program: structs of numbers, by data; their equality. -/
import Derived.Test.YtiekmbmgpachpaaGreatDoorEngR
namespace Go.Proofs.YtiekmbmgpachpaaGreatDoor.eng
open Go.RowKit num mem seg q held ratA ratB ratC ratD ratE vars ratF
def rc (x:RV):List C:= [.d (.v (.bool x.s)),.d (.v (.string x.a)),.d (.v (.string x.d))]
def pair (x y:RV):AV:= .val (.agg [.d (.v (.bool x.s)),.d (.v (.string x.a)),.d (.v (.string x.d)),.d (.v (.bool y.s)),.d (.v (.string y.a)),.d (.v (.string y.d))])
def turn (h:Bool) (x:RV):AV:= .val (.agg [.d (.v (.bool h)),.d (.v (.bool x.s)),.d (.v (.string x.a)),.d (.v (.string x.d))])
def box (x y z t:RV):AV:= .val (.agg [.d (.v (.bool x.s)),.d (.v (.string x.a)),.d (.v (.string x.d)),.d (.v (.bool y.s)),.d (.v (.string y.a)),.d (.v (.string y.d)),.d (.v (.bool z.s)),.d (.v (.string z.a)),.d (.v (.string z.d)),.d (.v (.bool t.s)),.d (.v (.string t.a)),.d (.v (.string t.d))])
def frame (x y:RV) (h:Bool) (z:RV):AV:= .val (.agg [.d (.v (.bool x.s)),.d (.v (.string x.a)),.d (.v (.string x.d)),.d (.v (.bool y.s)),.d (.v (.string y.a)),.d (.v (.string y.d)),.d (.v (.bool h)),.d (.v (.bool z.s)),.d (.v (.string z.a)),.d (.v (.string z.d))])
def cell (x y:Int):AV:= .val (.agg [.d (.v (.int .i64 x)),.d (.v (.int .i64 y))])
theorem RV.ext {x y:RV} (h1:x.s=y.s) (h2:x.a=y.a) (h3:x.d=y.d):x=y:=by cases x;cases y;simp_all
instance:DecidableEq RV:=fun x y=>if h:x.s=y.s∧x.a=y.a∧x.d=y.d then isTrue (RV.ext h.1 h.2.1 h.2.2) else isFalse (fun e=>h (by rw [e];exact⟨rfl,rfl,rfl⟩))
def RV.val (x:RV):Array Value:=#[.bool x.s,.string x.a,.string x.d]
theorem Zoq (a b:ByteArray):a.toList=b.toList↔a=b:=by
 rw [Lib.toList_data,Lib.toList_data]
 exact⟨fun e=>Zb9 e,fun e=>by rw [e]⟩
theorem Zpl (ox oy:Operand) (x:RV) (y:RV) (w:World):(do eqGuard .eql 27 ox oy (.agg #[.bool x.s,.string x.a,.string x.d]) (.agg #[.bool y.s,.string y.a,.string y.d]);binOp .eql 27 (.agg #[.bool x.s,.string x.a,.string x.d]) (.agg #[.bool y.s,.string y.a,.string y.d]):Sem Value).run Tryz.prog w= .ok (.bool (decide (x=y))) w:=by
 by_cases H:x=y
 ·obtain rfl:=H
  simp [go_sem]
 ·rw [decide_eq_false H]
  simp [go_sem,Zoq]
  first
   |(intros;intro _;exact H (RV.ext (by assumption) (by assumption) (by assumption)))
   |((repeat' split)<;>first
    |rfl
    |(intros;exact absurd (RV.ext (by assumption) (by assumption) (by assumption)) H)
    |(intros;intro _;exact H (RV.ext (by assumption) (by assumption) (by assumption))))
theorem Zio (ox oy:Operand) (n:Int) (n2:Int) (n':Int) (n2':Int) (w:World):(do eqGuard .eql 69 ox oy (.agg #[.int .i64 n,.int .i64 n2]) (.agg #[.int .i64 n',.int .i64 n2']);binOp .eql 69 (.agg #[.int .i64 n,.int .i64 n2]) (.agg #[.int .i64 n',.int .i64 n2']):Sem Value).run Tryz.prog w= .ok (.bool (decide (n=n'∧n2=n2'))) w:=by
 by_cases H:n=n'∧n2=n2'
 ·obtain⟨rfl,rfl⟩:=H
  simp [go_sem]
 ·rw [decide_eq_false H]
  simp [go_sem]
  first
   |(intros;intro _;exact H ⟨by assumption,by assumption⟩)
   |((repeat' split)<;>first
    |rfl
    |(intros;exact absurd ⟨by assumption,by assumption⟩ H)
    |(intros;intro _;exact H ⟨by assumption,by assumption⟩))
theorem ZhR (ox oy:Operand) (n:Int) (n2:Int) (n':Int) (n2':Int) (w:World):(do eqGuard .neq 69 ox oy (.agg #[.int .i64 n,.int .i64 n2]) (.agg #[.int .i64 n',.int .i64 n2']);binOp .neq 69 (.agg #[.int .i64 n,.int .i64 n2]) (.agg #[.int .i64 n',.int .i64 n2']):Sem Value).run Tryz.prog w= .ok (.bool (!decide (n=n'∧n2=n2'))) w:=by
 by_cases H:n=n'∧n2=n2'
 ·obtain⟨rfl,rfl⟩:=H
  simp [go_sem]
 ·rw [decide_eq_false H]
  simp [go_sem]
  first
   |(intros;intro _;exact H ⟨by assumption,by assumption⟩)
   |((repeat' split)<;>first
    |rfl
    |(intros;exact absurd ⟨by assumption,by assumption⟩ H)
    |(intros;intro _;exact H ⟨by assumption,by assumption⟩))
end Go.Proofs.YtiekmbmgpachpaaGreatDoor.eng
