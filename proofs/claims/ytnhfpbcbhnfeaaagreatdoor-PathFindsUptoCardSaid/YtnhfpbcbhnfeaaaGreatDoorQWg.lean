/- What the printed walks (wip/wg.py) lean on. -/
import Derived.Test.YtnhfpbcbhnfeaaaGreatDoorQGrpS
namespace Go.Proofs.YtnhfpbcbhnfeaaaGreatDoor.eng
open Go.RowKit num mem seg q held ratA ratB ratC ratD ratE vars ratF
section
variable{K:AV->Prop}
theorem ZaW{a b:Int}(h:(a==b)=true):a=b:=eq_of_beq h
theorem ZaX{a b:Int}(h:(a==b)=false):¬a=b:=fun e=>by rw[e]at h;simp at h
theorem ZO{a b:Int}(h:(a !=b)=true):¬a=b:=fun e=>by rw[e]at h;simp at h
theorem ZP{a b:Int}(h:(a !=b)=false):a=b:=by simpa using h
theorem Zbu{b:Bool}(h:(!b)=true):b=false:=by simpa using h
theorem Zbv{b:Bool}(h:(!b)=false):b=true:=by simpa using h
theorem Zzc{n:Int}{p q:Rat}(h:n=cmpQ p q):n<0↔p<q:=by rw[h];exact Zxj p q
theorem Zd9{n:Int}{p q:Rat}(h:n=cmpQ p q):n<=0↔p<=q:=by rw[h];exact Zl4 p q
theorem Zzd{n:Int}{p q:Rat}(h:n=cmpQ p q):n >0↔q<p:=by rw[h];exact Zxi p q
theorem Zze{n:Int}{p q:Rat}(h:n=cmpQ p q):n>=0↔q<=p:=by rw[h];exact Zrw p q
theorem ZoJ{n:Int}{p:Rat}(h:n=sgnQ p):n >0↔0<p:=by rw[h];exact ZkW p
theorem ZkX{n:Int}{p:Rat}(h:n=sgnQ p):n=0↔p=0:=by
 rw[h,<-ZgI];unfold sgnQ;by_cases h1:p.num=0
 .simp[h1]
 .rw[if_neg h1];constructor
  .intro e;split at e<;>omega
  .intro e;exact absurd e h1
theorem ZoI{n:Int}{p:Rat}(h:n=sgnQ p):n<0↔p<0:=by
 rw[h,<-ZgJ];unfold sgnQ;by_cases h1:p.num=0
 .simp[h1]
 .rw[if_neg h1];constructor
  .intro e;split at e<;>omega
  .intro e;rw[if_pos e];omega
theorem Z0{n:Int}{p:Rat}(h:n=sgnQ p):n<=0↔p<=0:=by
 have:=ZoJ h;rw[<-Rat.not_lt,<-this];omega
theorem Zx1{n:Int}{p:Rat}(h:n=sgnQ p):n>=0↔0<=p:=by
 have:=ZoI h;rw[<-Rat.not_lt,<-this];omega
theorem k_ix{xs:List (List D)}{m:Int}{n:Nat}(i:Nat)(cs:List D)(hm:m=(i:Int))(h:xs[i]? =some cs)(hl:cs.length=n)(k:K (.val (.one (.ref cs)))):
  ∃r,(∃cs,0<=m/\xs[m.toNat]? =some cs/\cs.length=n/\r= .val (.one (.ref cs)))/\K r:=⟨_,⟨cs,ω,by rw[hm,Int.toNat_natCast];exact h,hl,rfl⟩,k⟩
theorem Zvu{xs:List (List D)}{m:Int}{n:Nat}(i:Nat)(ys:List (List D))(hi:i<=xs.length)(hm:m=(i:Int))(hr:∀row,row∈xs->row.length=n)(hy:xs.drop i=ys)(k:K (.val (.one (.d (.list ys))))):
  ∃r,(0<=m/\m<=(xs.length:Int)/\(∀row,row∈xs->row.length=n)/\r= .val (.one (.d (.list (xs.drop m.toNat)))))/\K r:=⟨_,⟨ω,ω,hr,rfl⟩,by rw[hm,Int.toNat_natCast,hy];exact k⟩
theorem ZyD{xs:List (List D)}{m:Int}{n:Nat}(i:Nat)(ys:List (List D))(hi:i<=xs.length)(hm:m=(i:Int))(hr:∀row,row∈xs->row.length=n)(hy:xs.take i=ys)(k:K (.val (.one (.d (.list ys))))):
  ∃r,(0<=m/\m<=(xs.length:Int)/\(∀row,row∈xs->row.length=n)/\r= .val (.one (.d (.list (xs.take m.toNat)))))/\K r:=⟨_,⟨ω,ω,hr,rfl⟩,by rw[hm,Int.toNat_natCast,hy];exact k⟩
theorem Zd{α:Type}{f:α->List D}{l:List α}{i:Nat}{x:α}(h:l[i]? =some x):(l.map f)[i]? =some (f x):=by rw[List.getElem?_map,h];rfl
theorem Zcr{α:Type}{f:α->List D}{l:List α}{n:Nat}(h:∀x,(f x).length=n):∀row,row∈List.map f l->row.length=n:=fun row hr=>by
 obtain⟨x,_,rfl⟩:=List.mem_map.1 hr;exact h x
theorem Zti{α:Type}{f:α->List D}{l:List α}{i:Nat}{x:α}(h:l[i]? =some x):List.map f (l.take (i+1))=List.map f (l.take i)++[f x]:=by
 rw[List.take_add_one,h];simp
theorem z0q:z0.q=0:=by decide+kernel
theorem z0z:z0.z=0:=rfl
def rdc(q:Rat):List D:=rd (cn q)
theorem row1{r:List D}{n:Nat}(h:r.length=n):∀row,row∈ [r]->row.length=n:=fun row hr=>by rw[List.mem_singleton.1 hr];exact h
theorem rown{l:List (List D)}{n:Nat}(h:l.all (fun r=>Nat.beq r.length n)=true):∀row,row∈l->row.length=n:=fun row hr=>Nat.eq_of_beq_eq_true (List.all_eq_true.1 h row hr)
variable{T:TypeId}{ox oy:Operand}
theorem ZsE(T:TypeId)(ox oy:Operand)(n d:Nat)(hd:0<d)(w:World):(do eqGuard .rem T ox oy (.int .i64 (n:Int)) (.int .i64 (d:Int));binOp .rem T (.int .i64 (n:Int)) (.int .i64 (d:Int)):Sem Value).run Tryz.prog w= .ok (.int .i64 ((n%d:Nat):Int)) w:=by
 have h0:¬(d:Int)=0:=ω;have e1:(n:Int).tmod (d:Int)=((n%d:Nat):Int):=rfl;have hg:eqGuard .rem T ox oy (.int .i64 (n:Int)) (.int .i64 (d:Int))=pure ():=rfl;rw[hg,binOp_rem];unfold Op.intDiv;rw[if_neg h0];simp only[e1];rfl
theorem Zf3{x y:Int}(n d:Nat)(hx:x=n)(hy:y=d)(hd:0<d)(k:K (int ((n%d:Nat):Int))):AskB .rem T ox oy (.int .i64 x) (.int .i64 y) K:=by
 subst hx hy;exact⟨_,⟨_,rfl,rfl,ZsE T ox oy n d hd⟩,k⟩
end
