/- Joined by wip/bundle.py: XPolyB XPolyC XApartA XApartB. -/
import Derived.Test.YtnhfpbcbhnfeaaaGreatDoorQGrpGr
namespace Go.Proofs.YtnhfpbcbhnfeaaaGreatDoor.eng
open Go.RowKit num mem seg q held ratA ratB ratC ratD ratE vars ratF
section
variable{K:AV->Prop}
end
section
variable{K:AV->Prop}
theorem Zto(m a:Rat):lowF m a=minQ m a:=by
 unfold lowF minQ;by_cases h:a<m
 .rw[if_pos h,if_neg (Rat.not_le.2 h)]
 .rw[if_neg h,if_pos (Rat.not_lt.1 h)]
theorem ZqM(m a:Rat):highF m a=maxQ m a:=by
 unfold highF maxQ;by_cases h:m<a
 .rw[if_pos h,if_neg (Rat.not_le.2 h)]
 .rw[if_neg h,if_pos (Rat.not_lt.1 h)]
theorem Ziw(q a:Rat)(l:List Rat):lowL q (l++[a])=minQ (lowL q l) a:=by unfold lowL;rw[List.foldl_append,<-Zto];rfl
theorem Zf9(q a:Rat)(l:List Rat):highL q (l++[a])=maxQ (highL q l) a:=by unfold highL;rw[List.foldl_append,<-ZqM];rfl
theorem ZvL{l:List (RV×RV)}{i:Nat}{p:RV×RV}(h:l[i]? =some p):xsQ (l.take (i+1))=xsQ (l.take i)++[p.1.q]/\ysQ (l.take (i+1))=ysQ (l.take i)++[p.2.q]:=by
 rw[List.take_add_one,h];simp[xsQ,ysQ]
theorem Zpk{B:Nat}{l:List Rat}:∀{q:Rat},qs q<=B->(∀a,a∈l->qs a<=B)->qs (lowL q l)<=B:=by
 induction l with
 |nil=>intro q h _;exact h
 |cons a l ih=>
  intro q h h2;show qs (lowL (lowF q a) l)<=B;exact ih (by unfold lowF;split;exact h2 a (by simp);exact h) fun b hb=>h2 b (by simp[hb])
theorem Zk6{B:Nat}{l:List Rat}:∀{q:Rat},qs q<=B->(∀a,a∈l->qs a<=B)->qs (highL q l)<=B:=by
 induction l with
 |nil=>intro q h _;exact h
 |cons a l ih=>
  intro q h h2;show qs (highL (highF q a) l)<=B;exact ih (by unfold highF;split;exact h2 a (by simp);exact h) fun b hb=>h2 b (by simp[hb])
theorem xs_z{l:List (RV×RV)}{B:Nat}(hl:∀p,p∈l->p.1.z<=B/\p.2.z<=B)(i:Nat):(∀a,a∈xsQ (l.take i)->qs a<=B+1)/\∀a,a∈ysQ (l.take i)->qs a<=B+1:=by
 constructor<;>intro a ha<;>obtain⟨p,hp,rfl⟩:=List.mem_map.1 ha<;>have:=hl p (List.mem_of_mem_take hp)
 .have:=p.1.z1;omega
 .have:=p.2.z1;omega
set_option maxRecDepth 100000 in
theorem ZmO  :Spec Tryz.prog Tab 109 [Xl rdv ([]:List (RV×RV))] (box (cn 0) (cn 0) (cn 0) (cn 0)):=by
 have h0:=z0q;refine Zb Tryz.func109 Tryz.ntmps109 ?_;refine Zqd (x:=z0) (y:=z0) (z:=z0) (t:=z0) (by simp only[z0z];omega) (by simp only[z0z];omega) (by simp only[z0z];omega) (by simp only[z0z];omega) (fun p10 q10 a1 a2 a3 a4=>?_);simp only[cn_z,z0z]at a3;simp only[cn_z,z0z]at a4;refine⟨fun e1=>?_,fun e1=>?_⟩
 .have a0:((([]:List (RV×RV)).map rdv).length:Int)=0:=ZaW e1;refine Eq.trans (b:=box (cn p10) (cn q10) (cn p10) (cn q10)) ?_ rfl;obtain rfl:p10=0:=by rw[a1,z0q,Rat.add_zero]
  obtain rfl:q10=0:=by rw[a2,z0q,Rat.add_zero]
  rfl
 .have a0:¬(((([]:List (RV×RV)).map rdv).length:Int)=0):=ZaX e1;exfalso;exact a0 rfl
theorem ZwG{l:List (RV×RV)}(h:l= [])(k:K (box (cn 0) (cn 0) (cn 0) (cn 0))):Ask 109 [vecs l] K:=by subst h;exact use ZmO rfl k
def bx1:List (RV×RV)->Rat
 | []=>0
 |p::l=>lowL p.1.q (xsQ l)
def bx2:List (RV×RV)->Rat
 | []=>0
 |p::l=>lowL p.2.q (ysQ l)
def bx3:List (RV×RV)->Rat
 | []=>0
 |p::l=>highL p.1.q (xsQ l)
def bx4:List (RV×RV)->Rat
 | []=>0
 |p::l=>highL p.2.q (ysQ l)
def cvl(m:List (Rat×Rat)):List (RV×RV):=m.map fun p=>(cn p.1,cn p.2)
theorem Zxa(m:List (Rat×Rat)):(cvl m).length=m.length:=by simp[cvl]
end
section
variable{K:AV->Prop}
noncomputable def bothE(a b:List (RV×RV)):Int:=if convE 64 a=0 then convE 64 b else convE 64 a
theorem Zuo{a b:List (RV×RV)}:bothE a b=0↔convE 64 a=0/\convE 64 b=0:=by
 unfold bothE;by_cases h:convE 64 a=0<;>simp[h]
def outN(P:Nat->poly.Pt)(n i:Nat):poly.Pt:=((P ((i+1)%n)).2-(P i).2,-((P ((i+1)%n)).1-(P i).1))
def farTo(P:Nat->poly.Pt)(n:Nat)(Q:Nat->poly.Pt)(i k:Nat):Bool:=(List.range k).all fun j=>decide (0<(outN P n i).1*((Q j).1-(P i).1)+(outN P n i).2*((Q j).2-(P i).2))
theorem Zge(P:Nat->poly.Pt)(n:Nat)(Q:Nat->poly.Pt)(i k:Nat):farTo P n Q i (k+1)=(farTo P n Q i k&&decide (0<(outN P n i).1*((Q k).1-(P i).1)+(outN P n i).2*((Q k).2-(P i).2))):=by simp[farTo,List.range_succ]
def bey(a b:List (RV×RV)):Option Nat:=(List.range a.length).find? fun i=>farTo (pts a) a.length (pts b) i b.length
def beyV(a b:List (RV×RV)):RV×RV:=match bey a b with
 |some i=>(cn (outN (pts a) a.length i).1,cn (outN (pts a) a.length i).2)
 |none=>(z0,z0)
theorem Znk{n:Nat}{p:Nat->Bool}{i:Nat}(hi:i<n)(h:∀j,j<i->p j=false)(hp:p i=true):(List.range n).find? p=some i:=by
 rw[List.find?_range_eq_some];exact⟨hp,List.mem_range.2 hi,fun j hj=>by rw[h j hj];rfl⟩
theorem Zq0{n:Nat}{p:Nat->Bool}(h:∀j,j<n->p j=false):(List.range n).find? p=none:=by
 rw[List.find?_eq_none];intro x hx;rw[h x (List.mem_range.1 hx)];exact Bool.false_ne_true
noncomputable def meetB(a b:List (RV×RV)):Bool:=bothE a b==0&&((bey a b).isNone&&(bey b a).isNone)
end
section
variable{K:AV->Prop}
instance (x y z t:RV):Decidable (bxOk x y z t):=inferInstanceAs (Decidable (x.q<=z.q/\y.q<=t.q))
def bxMeet(x y z t x2 y2 z2 t2:RV):Prop:=bxOk x y z t/\bxOk x2 y2 z2 t2/\x.q<=z2.q/\x2.q<=z.q/\y.q<=t2.q/\y2.q<=t.q
instance (x y z t x2 y2 z2 t2:RV):Decidable (bxMeet x y z t x2 y2 z2 t2):=inferInstanceAs (Decidable (_/\_/\_/\_/\_/\_))
end
