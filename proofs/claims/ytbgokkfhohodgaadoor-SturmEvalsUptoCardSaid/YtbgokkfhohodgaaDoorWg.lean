/- What the printed walks (wip/wg.py) lean on. -/
import Derived.Test.YtbgokkfhohodgaaDoorGrpS
namespace Go.Proofs.YtbgokkfhohodgaaDoor.eng
open Go.RowKit num mem seg q held ratA ratB ratC ratD ratE vars ratF
section
variable {K : AV → Prop}
theorem ZhG {a b:Int} (h:(a==b)=true):a=b:=eq_of_beq h
theorem ZhH {a b:Int} (h:(a==b)=false):¬ a=b:=fun e=>by rw [e] at h;simp at h
theorem Zkn {a b:Int} (h:(a !=b)=true):¬ a=b:=fun e=>by rw [e] at h;simp at h
theorem Zko {a b:Int} (h:(a !=b)=false):a=b:=by simpa using h
theorem Z7 {n:Int} {p:Rat} (h:n=sgnQ p):n=0↔p=0:=by
 rw [h,← ZhW];unfold sgnQ
 by_cases h1:p.num=0
 ·simp [h1]
 ·rw [if_neg h1];constructor
  ·intro e;split at e<;>omega
  ·intro e;exact absurd e h1
theorem k_ix {xs:List (List D)} {m:Int} {n:Nat} (i:Nat) (cs:List D) (hm:m=(i:Int)) (h:xs[i]? =some cs) (hl:cs.length=n) (k:K (.val (.one (.ref cs)))):
  ∃ r,(∃ cs,0≤m∧xs[m.toNat]? =some cs∧cs.length=n∧r= .val (.one (.ref cs)))∧K r:=⟨_,⟨cs,by omega,by rw [hm,Int.toNat_natCast];exact h,hl,rfl⟩,k⟩
theorem Zz {α:Type} {f:α→List D} {l:List α} {i:Nat} {x:α} (h:l[i]? =some x):(List.map f l)[i]? =some (f x):=by rw [List.getElem?_map,h];rfl
def rdc (q:Rat):List D:=rd (cn q)
theorem row1 {r:List D} {n:Nat} (h:r.length=n):∀ row,row∈ [r]→row.length=n:=fun row hr=>by rw [List.mem_singleton.1 hr];exact h
variable {T : TypeId} {ox oy : Operand}
end
end Go.Proofs.YtbgokkfhohodgaaDoor.eng
