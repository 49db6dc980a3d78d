/- What the printed walks (wip/wg.py) lean on. -/
import Derived.Test.YtncoimmjjfmhdaaGreatDoorGrpS
namespace Go.Proofs.YtncoimmjjfmhdaaGreatDoor.eng
open Go.RowKit num mem seg q held ratA ratB ratC ratD ratE vars ratF
section
variable {K : AV → Prop}
theorem ZeO {a b:Int} (h:(a==b)=true):a=b:=eq_of_beq h
theorem ZeP {a b:Int} (h:(a==b)=false):¬ a=b:=fun e=>by rw [e] at h;simp at h
theorem Zdx {a b:Int} (h:(a !=b)=true):¬ a=b:=fun e=>by rw [e] at h;simp at h
theorem Zdy {a b:Int} (h:(a !=b)=false):a=b:=by simpa using h
theorem Zo9 {b:Bool} (h:(!b)=true):b=false:=by simpa using h
theorem Zpa {b:Bool} (h:(!b)=false):b=true:=by simpa using h
theorem Zk2 {n:Int} {p q:Rat} (h:n=cmpQ p q):n< 0↔p< q:=by rw [h];exact ZgP p q
theorem Zpf {n:Int} {p q:Rat} (h:n=cmpQ p q):n≤0↔p≤q:=by rw [h];exact Zh4 p q
theorem Zn8 {n:Int} {p q:Rat} (h:n=cmpQ p q):n >0↔q< p:=by rw [h];exact Zdi p q
theorem Zpg {n:Int} {p q:Rat} (h:n=cmpQ p q):n≥0↔q≤p:=by rw [h];exact Zle p q
theorem Zdh {n:Int} {p q:Rat} (h:n=cmpQ p q):n=0↔p=q:=by
 have h1:=Zpf h;have h2:=Zpg h
 constructor
 ·intro e;exact Rat.le_antisymm (h1.1 (by omega)) (h2.1 (by omega))
 ·intro e;have a:=h1.2 (by rw [e];exact Rat.le_refl);have b:=h2.2 (by rw [e];exact Rat.le_refl);omega
theorem Zoo {n:Int} {p:Rat} (h:n=sgnQ p):n >0↔0< p:=by rw [h];exact ZlK p
theorem ZcP {n:Int} {p:Rat} (h:n=sgnQ p):n=0↔p=0:=by
 rw [h,← Zel];unfold sgnQ
 by_cases h1:p.num=0
 ·simp [h1]
 ·rw [if_neg h1];constructor
  ·intro e;split at e<;>omega
  ·intro e;exact absurd e h1
theorem ZmO {n:Int} {p:Rat} (h:n=sgnQ p):n< 0↔p< 0:=by
 rw [h,← Zgi];unfold sgnQ
 by_cases h1:p.num=0
 ·simp [h1]
 ·rw [if_neg h1];constructor
  ·intro e;split at e<;>omega
  ·intro e;rw [if_pos e];omega
theorem Zcf {n:Int} {p:Rat} (h:n=sgnQ p):n≤0↔p≤0:=by
 have:=Zoo h
 rw [← Rat.not_lt,← this];omega
theorem k_ix {xs:List (List D)} {m:Int} {n:Nat} (i:Nat) (cs:List D) (hm:m=(i:Int)) (h:xs[i]? =some cs) (hl:cs.length=n) (k:K (.val (.one (.ref cs)))):
  ∃ r,(∃ cs,0≤m∧xs[m.toNat]? =some cs∧cs.length=n∧r= .val (.one (.ref cs)))∧K r:=⟨_,⟨cs,by omega,by rw [hm,Int.toNat_natCast];exact h,hl,rfl⟩,k⟩
theorem Zw {α:Type} {f:α→List D} {l:List α} {i:Nat} {x:α} (h:l[i]? =some x):(List.map f l)[i]? =some (f x):=by rw [List.getElem?_map,h];rfl
theorem Zhz {α:Type} {f:α→List D} {l:List α} {n:Nat} (h:∀ x,(f x).length=n):∀ row,row∈List.map f l→row.length=n:=fun row hr=>by
 obtain⟨x,_,rfl⟩:=List.mem_map.1 hr;exact h x
theorem z0q:z0.q=0:=by decide+kernel
theorem z0z:z0.z=0:=rfl
def rdc (q:Rat):List D:=rd (cn q)
theorem row1 {r:List D} {n:Nat} (h:r.length=n):∀ row,row∈ [r]→row.length=n:=fun row hr=>by rw [List.mem_singleton.1 hr];exact h
theorem rown {l:List (List D)} {n:Nat} (h:l.all (fun r=>Nat.beq r.length n)=true):∀ row,row∈l→row.length=n:=fun row hr=>Nat.eq_of_beq_eq_true (List.all_eq_true.1 h row hr)
variable {T : TypeId} {ox oy : Operand}
theorem ZlO (T:TypeId) (ox oy:Operand) (n d:Nat) (hd:0< d) (w:World):(do eqGuard .rem T ox oy (.int .i64 (n:Int)) (.int .i64 (d:Int));binOp .rem T (.int .i64 (n:Int)) (.int .i64 (d:Int)):Sem Value).run Tryz.prog w= .ok (.int .i64 ((n % d:Nat):Int)) w:=by
 have h0:¬ (d:Int)=0:=by omega
 have e1:(n:Int).tmod (d:Int)=((n % d:Nat):Int):=rfl
 have hg:eqGuard .rem T ox oy (.int .i64 (n:Int)) (.int .i64 (d:Int))=pure ():=rfl
 rw [hg,binOp_rem]
 unfold Op.intDiv
 rw [if_neg h0]
 simp only [e1]
 rfl
theorem ZkC {x y:Int} (n d:Nat) (hx:x=n) (hy:y=d) (hd:0< d) (k:K (int ((n % d:Nat):Int))):AskB .rem T ox oy (.int .i64 x) (.int .i64 y) K:=by
 subst hx hy
 exact⟨_,⟨_,rfl,rfl,ZlO T ox oy n d hd⟩,k⟩
end
end Go.Proofs.YtncoimmjjfmhdaaGreatDoor.eng
