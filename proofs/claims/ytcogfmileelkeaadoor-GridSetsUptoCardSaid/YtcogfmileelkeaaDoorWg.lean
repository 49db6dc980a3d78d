/- What the printed walks (wip/wg.py) lean on. -/
import Derived.Test.YtcogfmileelkeaaDoorGrpS
namespace Go.Proofs.YtcogfmileelkeaaDoor.eng
open Go.RowKit num mem seg q held ratA ratB ratC ratD ratE vars ratF
section
variable {K : AV → Prop}
theorem Zix {a b:Int} (h:(a==b)=true):a=b:=eq_of_beq h
theorem Ziy {a b:Int} (h:(a==b)=false):¬ a=b:=fun e=>by rw [e] at h;simp at h
theorem Zlu {a b:Int} (h:(a !=b)=true):¬ a=b:=fun e=>by rw [e] at h;simp at h
theorem Zlv {a b:Int} (h:(a !=b)=false):a=b:=by simpa using h
theorem ZhN {b:Bool} (h:(!b)=true):b=false:=by simpa using h
theorem ZhO {b:Bool} (h:(!b)=false):b=true:=by simpa using h
theorem k_ix {xs:List (List D)} {m:Int} {n:Nat} (i:Nat) (cs:List D) (hm:m=(i:Int)) (h:xs[i]? =some cs) (hl:cs.length=n) (k:K (.val (.one (.ref cs)))):
  ∃ r,(∃ cs,0≤m∧xs[m.toNat]? =some cs∧cs.length=n∧r= .val (.one (.ref cs)))∧K r:=⟨_,⟨cs,by omega,by rw [hm,Int.toNat_natCast];exact h,hl,rfl⟩,k⟩
theorem ZH {α:Type} {f:α→List D} {l:List α} {i:Nat} {x:α} (h:l[i]? =some x):(List.map f l)[i]? =some (f x):=by rw [List.getElem?_map,h];rfl
theorem Zb4 {α:Type} {f:α→List D} {l:List α} {n:Nat} (h:∀ x,(f x).length=n):∀ row,row∈List.map f l→row.length=n:=fun row hr=>by
 obtain⟨x,_,rfl⟩:=List.mem_map.1 hr;exact h x
theorem row1 {r:List D} {n:Nat} (h:r.length=n):∀ row,row∈ [r]→row.length=n:=fun row hr=>by rw [List.mem_singleton.1 hr];exact h
variable {T : TypeId} {ox oy : Operand}
end
end Go.Proofs.YtcogfmileelkeaaDoor.eng
