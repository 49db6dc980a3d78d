/- What the printed walks (wip/wg.py) lean on. -/
import Derived.Test.YtjlhknppkodilaaGreatDoorGrpS
namespace Go.Proofs.YtjlhknppkodilaaGreatDoor.eng
open Go.RowKit num mem seg q held ratA ratB ratC ratD ratE vars ratF
section
variable {K : AV → Prop}
theorem Zjw {a b:Int} (h:(a==b)=true):a=b:=eq_of_beq h
theorem Zjx {a b:Int} (h:(a==b)=false):¬ a=b:=fun e=>by rw [e] at h;simp at h
theorem Zay {a b:Int} (h:(a !=b)=true):¬ a=b:=fun e=>by rw [e] at h;simp at h
theorem Zaz {a b:Int} (h:(a !=b)=false):a=b:=by simpa using h
theorem ZcO {b:Bool} (h:(!b)=true):b=false:=by simpa using h
theorem ZcP {b:Bool} (h:(!b)=false):b=true:=by simpa using h
theorem Znm {n:Int} {p q:Rat} (h:n=cmpQ p q):n< 0↔p< q:=by rw [h];exact ZoL p q
theorem ZpK {n:Int} {p q:Rat} (h:n=cmpQ p q):n >0↔q< p:=by rw [h];exact ZoK p q
theorem ZpL {n:Int} {p q:Rat} (h:n=cmpQ p q):n≥0↔q≤p:=by rw [h];exact Ziv p q
theorem Zo7 {n:Int} {p:Rat} (h:n=sgnQ p):n >0↔0< p:=by rw [h];exact ZeS p
theorem ZhU {n:Int} {p:Rat} (h:n=sgnQ p):n=0↔p=0:=by
 rw [h,← ZeR];unfold sgnQ
 by_cases h1:p.num=0
 ·simp [h1]
 ·rw [if_neg h1];constructor
  ·intro e;split at e<;>omega
  ·intro e;exact absurd e h1
theorem Zdy {n:Int} {p:Rat} (h:n=sgnQ p):n< 0↔p< 0:=by
 rw [h,← ZeT];unfold sgnQ
 by_cases h1:p.num=0
 ·simp [h1]
 ·rw [if_neg h1];constructor
  ·intro e;split at e<;>omega
  ·intro e;rw [if_pos e];omega
theorem ZN {n:Int} {p:Rat} (h:n=sgnQ p):n≤0↔p≤0:=by
 have:=Zo7 h
 rw [← Rat.not_lt,← this];omega
theorem Zo8 {n:Int} {p:Rat} (h:n=sgnQ p):n≥0↔0≤p:=by
 have:=Zdy h
 rw [← Rat.not_lt,← this];omega
theorem k_ix {xs:List (List D)} {m:Int} {n:Nat} (i:Nat) (cs:List D) (hm:m=(i:Int)) (h:xs[i]? =some cs) (hl:cs.length=n) (k:K (.val (.one (.ref cs)))):
  ∃ r,(∃ cs,0≤m∧xs[m.toNat]? =some cs∧cs.length=n∧r= .val (.one (.ref cs)))∧K r:=⟨_,⟨cs,by omega,by rw [hm,Int.toNat_natCast];exact h,hl,rfl⟩,k⟩
theorem Zm {α:Type} {f:α→List D} {l:List α} {i:Nat} {x:α} (h:l[i]? =some x):(List.map f l)[i]? =some (f x):=by rw [List.getElem?_map,h];rfl
theorem ZmY {α:Type} {f:α→List D} {l:List α} {i:Nat} {x:α} (h:l[i]? =some x):List.map f (l.take (i+1))=List.map f (l.take i)++ [f x]:=by
 rw [List.take_add_one,h];simp
def rdc (q:Rat):List D:=rd (cn q)
theorem row1 {r:List D} {n:Nat} (h:r.length=n):∀ row,row∈ [r]→row.length=n:=fun row hr=>by rw [List.mem_singleton.1 hr];exact h
variable {T : TypeId} {ox oy : Operand}
theorem Zmw (T:TypeId) (ox oy:Operand) (n d:Nat) (hd:0< d) (w:World):(do eqGuard .rem T ox oy (.int .i64 (n:Int)) (.int .i64 (d:Int));binOp .rem T (.int .i64 (n:Int)) (.int .i64 (d:Int)):Sem Value).run Tryz.prog w= .ok (.int .i64 ((n % d:Nat):Int)) w:=by
 have h0:¬ (d:Int)=0:=by omega
 have e1:(n:Int).tmod (d:Int)=((n % d:Nat):Int):=rfl
 have hg:eqGuard .rem T ox oy (.int .i64 (n:Int)) (.int .i64 (d:Int))=pure ():=rfl
 rw [hg,binOp_rem]
 unfold Op.intDiv
 rw [if_neg h0]
 simp only [e1]
 rfl
theorem Zic {x y:Int} (n d:Nat) (hx:x=n) (hy:y=d) (hd:0< d) (k:K (int ((n % d:Nat):Int))):AskB .rem T ox oy (.int .i64 x) (.int .i64 y) K:=by
 subst hx hy
 exact⟨_,⟨_,rfl,rfl,Zmw T ox oy n d hd⟩,k⟩
end
end Go.Proofs.YtjlhknppkodilaaGreatDoor.eng
