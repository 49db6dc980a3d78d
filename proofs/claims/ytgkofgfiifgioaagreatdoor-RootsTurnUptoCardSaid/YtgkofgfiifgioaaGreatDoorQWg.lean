/- What the printed walks (wip/wg.py) lean on. -/
import Derived.Test.YtgkofgfiifgioaaGreatDoorQGrpS
namespace Go.Proofs.YtgkofgfiifgioaaGreatDoor.eng
open Go.RowKit num mem seg q held ratA ratB ratC ratD ratE vars ratF
section
variable {K : AV → Prop}
theorem ZL {a b:Int} (h:(a==b)=true):a=b:=eq_of_beq h
theorem ZM {a b:Int} (h:(a==b)=false):¬ a=b:=fun e=>by rw [e] at h;simp at h
theorem Zoi {a b:Int} (h:(a !=b)=true):¬ a=b:=fun e=>by rw [e] at h;simp at h
theorem Zoj {a b:Int} (h:(a !=b)=false):a=b:=by simpa using h
theorem Zhd {b:Bool} (h:(!b)=true):b=false:=by simpa using h
theorem Zhe {b:Bool} (h:(!b)=false):b=true:=by simpa using h
theorem ZtF {n:Int} {p q:Rat} (h:n=cmpQ p q):n< 0↔p< q:=by rw [h];exact ZqW p q
theorem ZsO {n:Int} {p q:Rat} (h:n=cmpQ p q):n >0↔q< p:=by rw [h];exact ZbM p q
theorem ZsP {n:Int} {p q:Rat} (h:n=cmpQ p q):n≥0↔q≤p:=by rw [h];exact Zmr p q
theorem ZrA {n:Int} {p:Rat} (h:n=sgnQ p):n >0↔0< p:=by rw [h];exact Zm2 p
theorem Zav {n:Int} {p:Rat} (h:n=sgnQ p):n=0↔p=0:=by
 rw [h,← ZeI];unfold sgnQ
 by_cases h1:p.num=0
 ·simp [h1]
 ·rw [if_neg h1];constructor
  ·intro e;split at e<;>omega
  ·intro e;exact absurd e h1
theorem Zh4 {n:Int} {p:Rat} (h:n=sgnQ p):n≤0↔p≤0:=by
 have:=ZrA h
 rw [← Rat.not_lt,← this];omega
theorem k_ix {xs:List (List D)} {m:Int} {n:Nat} (i:Nat) (cs:List D) (hm:m=(i:Int)) (h:xs[i]? =some cs) (hl:cs.length=n) (k:K (.val (.one (.ref cs)))):
  ∃ r,(∃ cs,0≤m∧xs[m.toNat]? =some cs∧cs.length=n∧r= .val (.one (.ref cs)))∧K r:=⟨_,⟨cs,ω,by rw [hm,Int.toNat_natCast];exact h,hl,rfl⟩,k⟩
theorem Zsp {xs:List (List D)} {m:Int} {n:Nat} (i:Nat) (ys:List (List D)) (hi:i≤xs.length) (hm:m=(i:Int)) (hr:∀ row,row∈xs→row.length=n) (hy:xs.drop i=ys) (k:K (.val (.one (.d (.list ys))))):
  ∃ r,(0≤m∧m≤(xs.length:Int)∧(∀ row,row∈xs→row.length=n)∧r= .val (.one (.d (.list (xs.drop m.toNat)))))∧K r:=⟨_,⟨ω,ω,hr,rfl⟩,by rw [hm,Int.toNat_natCast,hy];exact k⟩
theorem Zsc {xs:List (List D)} {m:Int} {n:Nat} (i:Nat) (ys:List (List D)) (hi:i≤xs.length) (hm:m=(i:Int)) (hr:∀ row,row∈xs→row.length=n) (hy:xs.take i=ys) (k:K (.val (.one (.d (.list ys))))):
  ∃ r,(0≤m∧m≤(xs.length:Int)∧(∀ row,row∈xs→row.length=n)∧r= .val (.one (.d (.list (xs.take m.toNat)))))∧K r:=⟨_,⟨ω,ω,hr,rfl⟩,by rw [hm,Int.toNat_natCast,hy];exact k⟩
theorem Zl {α:Type} {f:α→List D} {l:List α} {i:Nat} {x:α} (h:l[i]? =some x):(List.map f l)[i]? =some (f x):=by rw [List.getElem?_map,h];rfl
theorem Zik {α:Type} {f:α→List D} {l:List α} {n:Nat} (h:∀ x,(f x).length=n):∀ row,row∈List.map f l→row.length=n:=fun row hr=>by
 obtain⟨x,_,rfl⟩:=List.mem_map.1 hr;exact h x
theorem z0q:z0.q=0:=by decide+kernel
theorem z0z:z0.z=0:=rfl
def rdc (q:Rat):List D:=rd (cn q)
theorem row1 {r:List D} {n:Nat} (h:r.length=n):∀ row,row∈ [r]→row.length=n:=fun row hr=>by rw [List.mem_singleton.1 hr];exact h
variable {T : TypeId} {ox oy : Operand}
theorem Znc (T:TypeId) (ox oy:Operand) (n d:Nat) (hd:0< d) (hn:n< 9223372036854775808) (w:World):(do eqGuard .quo T ox oy (.int .i64 (n:Int)) (.int .i64 (d:Int));binOp .quo T (.int .i64 (n:Int)) (.int .i64 (d:Int)):Sem Value).run Tryz.prog w= .ok (.int .i64 ((n / d:Nat):Int)) w:=by
 have h0:¬ (d:Int)=0:=ω
 have h1:n / d≤n:=Nat.div_le_self n d
 have e1:(n:Int).tdiv (d:Int)=((n / d:Nat):Int):=rfl
 have hb:Op.intDiv .quo .i64 (n:Int) (d:Int)=pure (.int .i64 ((n / d:Nat):Int)):=by
  unfold Op.intDiv
  rw [if_neg h0]
  show pure (Value.int .i64 (IntKind.i64.wrap ((n:Int).tdiv (d:Int))))=_
  rw [e1]
  generalize n / d=z at h1
  rw [wrap64 _ ω ω]
 rw [eqGuard_quo,binOp_quo,hb]
 rfl
theorem Zm9 (T:TypeId) (ox oy:Operand) (n d:Nat) (hd:0< d) (w:World):(do eqGuard .rem T ox oy (.int .i64 (n:Int)) (.int .i64 (d:Int));binOp .rem T (.int .i64 (n:Int)) (.int .i64 (d:Int)):Sem Value).run Tryz.prog w= .ok (.int .i64 ((n % d:Nat):Int)) w:=by
 have h0:¬ (d:Int)=0:=ω
 have e1:(n:Int).tmod (d:Int)=((n % d:Nat):Int):=rfl
 have hg:eqGuard .rem T ox oy (.int .i64 (n:Int)) (.int .i64 (d:Int))=pure ():=rfl
 rw [hg,binOp_rem]
 unfold Op.intDiv
 rw [if_neg h0]
 simp only [e1]
 rfl
theorem ZoU {x y:Int} (n d:Nat) (hx:x=n) (hy:y=d) (hd:0< d) (hn:n< 9223372036854775808) (k:K (int ((n / d:Nat):Int))):AskB .quo T ox oy (.int .i64 x) (.int .i64 y) K:=by
 subst hx hy
 exact⟨_,⟨_,rfl,rfl,Znc T ox oy n d hd hn⟩,k⟩
theorem Zf6 {x y:Int} (n d:Nat) (hx:x=n) (hy:y=d) (hd:0< d) (k:K (int ((n % d:Nat):Int))):AskB .rem T ox oy (.int .i64 x) (.int .i64 y) K:=by
 subst hx hy
 exact⟨_,⟨_,rfl,rfl,Zm9 T ox oy n d hd⟩,k⟩
end
