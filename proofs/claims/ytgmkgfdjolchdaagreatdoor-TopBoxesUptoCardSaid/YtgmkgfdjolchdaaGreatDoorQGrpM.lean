/- Joined by wip/bundle.py: XEngFrame XEngFrame2 XEngH3b XFore0. -/
import Derived.Test.YtgmkgfdjolchdaaGreatDoorQGrpX
set_option maxRecDepth 100000
namespace Go.Proofs.YtgmkgfdjolchdaaGreatDoor.eng
open Go.RowKit num mem seg q held ratA ratB ratC ratD ratE vars ratF trq
section
variable {x y z t u v : RV} {h : Bool} {K : AV → Prop}
def vtX (h:Bool) (p x y:Rat):Rat:=x*cosq h p - y*sinq (tq h p)
def vtY (h:Bool) (p x y:Rat):Rat:=x*sinq (tq h p)+y*cosq h p
theorem ZkV (h:Bool) (x y z:RV) (hx:x.z≤268435456) (hy:y.z≤268435456) (hz:z.z≤268435456):Spec Tryz.prog Tab 99 [pair x y,turn h z] (pair (cn (vtX h z.q x.q y.q)) (cn (vtY h z.q x.q y.q))):=by
 refine Za Tryz.func99 rfl rfl Tryz.ntmps99 rfl ωr rfl rfl ?_
 refine ZrI ω fun q1 h1 z1=> ?_
 try simp only [cn_q] at h1
 refine Zkc ω fun q2 h2 z2=> ?_
 try simp only [cn_q] at h2
 refine⟨ωr,?_⟩
 refine Z3 ω ω fun q3 h3 z3=> ?_
 try simp only [cn_q] at h3
 refine Z3 ω ω fun q4 h4 z4=> ?_
 try simp only [cn_q] at h4
 refine Zap ω ω fun q5 h5 z5=> ?_
 try simp only [cn_q] at h5
 refine Z3 ω ω fun q6 h6 z6=> ?_
 try simp only [cn_q] at h6
 refine Z3 ω ω fun q7 h7 z7=> ?_
 try simp only [cn_q] at h7
 refine ZaJ ω ω fun q8 h8 z8=> ?_
 try simp only [cn_q] at h8
 refine⟨ωr,?_⟩
 refine Eq.trans (b:=pair (cn _) (cn _)) ?_ rfl
 subst_vars;rfl
theorem Zp3 (h:Bool) (p x y:Rat):qs (vtX h p x y)≤qs x+qs y+8*qs p+200∧qs (vtY h p x y)≤qs x+qs y+8*qs p+200:=by
 have h1:=Znf h p
 have h2:=Znd (tq h p)
 have h3:qs (tq h p)≤qs p+8:=by
  unfold tq;split
  ·have:=qs_0;omega
  ·omega
 have:=Zp x (cosq h p)
 have:=Zp y (sinq (tq h p))
 have:=Zp x (sinq (tq h p))
 have:=Zp y (cosq h p)
 have:=Zae (x*cosq h p) (y*sinq (tq h p))
 have:=Zw (x*sinq (tq h p)) (y*cosq h p)
 unfold vtX vtY
 constructor<;>omega
theorem Zn2 (hx:x.z≤268435456) (hy:y.z≤268435456) (hz:z.z≤268435456) (k:∀ p q,p=vtX h z.q x.q y.q→q=vtY h z.q x.q y.q→(cn p).z≤x.z+y.z+8*z.z+240→(cn q).z≤x.z+y.z+8*z.z+240→K (pair (cn p) (cn q))):Ask 99 [pair x y,turn h z] K:=
 use (ZkV h x y z hx hy hz) rfl (k _ _ rfl rfl (by have:=(Zp3 h z.q x.q y.q).1;have:=x.z1;have:=y.z1;have:=z.z1;rw [cn_z];omega) (by have:=(Zp3 h z.q x.q y.q).2;have:=x.z1;have:=y.z1;have:=z.z1;rw [cn_z];omega))
theorem Zp6 (x y:RV) (h:Bool) (z t u:RV) (hx:x.z≤268435456) (hy:y.z≤268435456) (hz:z.z≤268435456) (ht:t.z≤268435456) (hu:u.z≤268435456):Spec Tryz.prog Tab 52 [frame x y h z,pair t u] (pair (cn (x.q+vtX h z.q t.q u.q)) (cn (y.q+vtY h z.q t.q u.q))):=by
 refine Za Tryz.func52 rfl rfl Tryz.ntmps52 rfl ωr rfl rfl ?_
 refine Zn2 ω ω ω fun p1 q1 e1 h1 y1 z1=> ?_
 try simp only [cn_q] at e1 h1
 refine ZuV ω ω ω ω fun p2 q2 e2 h2 y2 z2=> ?_
 try simp only [cn_q] at e2 h2
 refine⟨ωr,?_⟩
 refine Eq.trans (b:=pair (cn _) (cn _)) ?_ rfl
 subst_vars;rfl
end
section
variable {x y z t u v w x2 y2 z2 : RV} {h g : Bool} {K : AV → Prop}
theorem Zs2 (hx:x.z≤268435456) (hy:y.z≤268435456) (hz:z.z≤268435456) (ht:t.z≤268435456) (hu:u.z≤268435456) (k:∀ p q,p=x.q+vtX h z.q t.q u.q→q=y.q+vtY h z.q t.q u.q→(cn p).z≤x.z+t.z+u.z+8*z.z+260→(cn q).z≤y.z+t.z+u.z+8*z.z+260→K (pair (cn p) (cn q))):Ask 52 [frame x y h z,pair t u] K:=
 use (Zp6 x y h z t u hx hy hz ht hu) rfl (k _ _ rfl rfl (by have:=Zw x.q (vtX h z.q t.q u.q);have:=(Zp3 h z.q t.q u.q).1;have:=x.z1;have:=t.z1;have:=u.z1;have:=z.z1;rw [cn_z];omega) (by have:=Zw y.q (vtY h z.q t.q u.q);have:=(Zp3 h z.q t.q u.q).2;have:=y.z1;have:=t.z1;have:=u.z1;have:=z.z1;rw [cn_z];omega))
theorem ZlJ  :Spec Tryz.prog Tab 102 [] (frame (cn ((0:Int):Rat)) (cn ((0:Int):Rat)) false (cn ((0:Int):Rat))):=by
 refine Za Tryz.func102 rfl rfl Tryz.ntmps102 rfl ωr rfl rfl ?_
 refine k_of (0) ω ω fun q1 h1 z1=> ?_
 refine Zf4 ω fun q2 h2 z2=> ?_
 try simp only [cn_q] at h2
 refine⟨ωr,?_⟩
 refine Eq.trans (b:=frame (cn _) (cn _) false (cn _)) ?_ rfl
 subst_vars;rfl
theorem Zs7 (k:∀ q,q=((0:Int):Rat)→(cn q).z≤8→K (frame (cn q) (cn q) false (cn q))):Ask 102 [] K:=
 use ZlJ rfl (k _ rfl (by have:=qs_0;rw [cn_z];omega))
theorem ZlK (x y:RV) (h:Bool) (z x2 y2:RV) (g:Bool) (z2:RV) (hx:x.z≤268435456) (hy:y.z≤268435456) (hz:z.z≤268435456) (hx2:x2.z≤268435456) (hy2:y2.z≤268435456) (hz2:z2.z≤268435456):Spec Tryz.prog Tab 83 [frame x y h z,frame x2 y2 g z2] (frame (cn (x.q+vtX h z.q x2.q y2.q)) (cn (y.q+vtY h z.q x2.q y2.q)) (thnH h g z.q z2.q) (cn (thnQ h g z.q z2.q))):=by
 refine Za Tryz.func83 rfl rfl Tryz.ntmps83 rfl ωr rfl rfl ?_
 refine Zs2 ω ω ω ω ω fun p1 q1 e1 h1 y1 z1=> ?_
 refine ZsY ω ω fun b2 q2 e2 h2 z2=> ?_
 refine⟨ωr,?_⟩
 refine Eq.trans (b:=frame (cn _) (cn _) _ (cn _)) ?_ rfl
 subst_vars;rfl
theorem Zob (hx:x.z≤268435456) (hy:y.z≤268435456) (hz:z.z≤268435456) (hx2:x2.z≤268435456) (hy2:y2.z≤268435456) (hz2:z2.z≤268435456) (k:∀ p q b r,p=x.q+vtX h z.q x2.q y2.q→q=y.q+vtY h z.q x2.q y2.q→b=thnH h g z.q z2.q→r=thnQ h g z.q z2.q→K (frame (cn p) (cn q) b (cn r))):Ask 83 [frame x y h z,frame x2 y2 g z2] K:=
 use (ZlK x y h z x2 y2 g z2 hx hy hz hx2 hy2 hz2) rfl (k _ _ _ _ rfl rfl rfl rfl)
theorem ZlM (x y:RV) (h:Bool) (z:RV) (hx:x.z≤1048576) (hy:y.z≤1048576) (hz:z.z≤1048576):Spec Tryz.prog Tab 53 [frame x y h z] (frame (cn (vtX h (-tq h z.q) (((0:Int):Rat) - x.q) (((0:Int):Rat) - y.q))) (cn (vtY h (-tq h z.q) (((0:Int):Rat) - x.q) (((0:Int):Rat) - y.q))) h (cn (-tq h z.q))):=by
 refine Za Tryz.func53 rfl rfl Tryz.ntmps53 rfl ωr rfl rfl ?_
 refine ZsZ ω fun q1 h1 z1=> ?_
 refine Zs7 fun q2 e2 z2=> ?_
 refine Zn3 ω ω ω ω fun p3 q3 e3 h3 y3 z3=> ?_
 refine Zn2 ω ω ω fun p4 q4 e4 h4 y4 z4=> ?_
 refine⟨ωr,?_⟩
 try simp only [cn_q] at*
 refine Eq.trans (b:=frame (cn _) (cn _) _ (cn _)) ?_ rfl
 subst_vars;rfl
theorem Zs9 (hx:x.z≤1048576) (hy:y.z≤1048576) (hz:z.z≤1048576) (k:∀ p q r,p=vtX h (-tq h z.q) (((0:Int):Rat) - x.q) (((0:Int):Rat) - y.q)→q=vtY h (-tq h z.q) (((0:Int):Rat) - x.q) (((0:Int):Rat) - y.q)→r=-tq h z.q→K (frame (cn p) (cn q) h (cn r))):Ask 53 [frame x y h z] K:=
 use (ZlM x y h z hx hy hz) rfl (k _ _ _ rfl rfl rfl)
def movV (x y:RV) (h:Bool) (z:RV) (p:RV×RV):RV×RV:=(cn (x.q+vtX h z.q p.1.q p.2.q),cn (y.q+vtY h z.q p.1.q p.2.q))
def movL (x y:RV) (h:Bool) (z:RV) (l:List (RV×RV)) (i:Nat):List (List D):=((l.take i).map fun p=>rdv (movV x y h z p))++List.replicate (l.length - i) (rdv (z0,z0))
theorem Zqr (x y:RV) (h:Bool) (z:RV) (l:List (RV×RV)) (i:Nat) (a:RV×RV) (ha:l[i]? =some a):(movL x y h z l i).set i (rdv (movV x y h z a))=movL x y h z l (i+1):=by
 have hlt:i< l.length:=(List.getElem?_eq_some_iff.1 ha).1
 unfold movL
 rw [List.take_add_one,ha]
 have h1:((l.take i).map fun p=>rdv (movV x y h z p)).length=i:=by rw [List.length_map,List.length_take];omega
 rw [List.set_append_right _ _ ω,h1,Nat.sub_self]
 have h2:l.length - i=(l.length - (i+1))+1:=ω
 rw [h2,List.replicate_succ]
 simp
theorem Zj4 (x y:RV) (h:Bool) (z:RV) (l:List (RV×RV)) (i:Nat) (hi:i≤l.length):(movL x y h z l i).length=l.length:=by
 unfold movL
 simp only [List.length_append,List.length_map,List.length_take,List.length_replicate];omega
theorem ZqF {xs:List (List D)} {m:Int} {o v n:Nat} (i:Nat) (hm:m=(i:Int)) (h:i< xs.length) (k:K (.val (.one (.rp o v n i 0)))):
  ∃ r,(0≤m∧m< (xs.length:Int)∧r= .val (.one (.rp o v n m.toNat 0)))∧K r:=⟨_,⟨ω,ω,rfl⟩,by subst hm;exact k⟩
theorem ZlL (x y:RV) (h:Bool) (z:RV) (l:List (RV×RV)) (hx:x.z≤268435456) (hy:y.z≤268435456) (hz:z.z≤268435456) (hl:∀ p,p∈l→p.1.z≤268435456∧p.2.z≤268435456) (hn:l.length≤1073741824):
  Spec Tryz.prog Tab 40 [frame x y h z,vecs l] (vecs (l.map (movV x y h z))):=by
 refine Za Tryz.func40 rfl rfl Tryz.ntmps40 rfl ωr rfl rfl ?_
 refine⟨⟨Int.natCast_nonneg _,rfl,by rw [List.length_map];show ((l.length:Nat):Int)*((80:Nat):Int)≤_;omega,by rw [List.length_map];omega⟩,?_⟩
 refine⟨Nat,fun i=> [(5,.val (.one (.row 10 0))),(11,vecs l),(12,int (((l.map rdv).length:Nat):Int)),(13,int (i:Int)),(2,.val (.one (.ptr 2 0)))],
  fun i=> [(2,.var 31 (rc x++rc y++ [.d (.v (.bool h))]++rc z)),(10,.row 27 6 0 (movL x y h z l i) true)],
  fun i=>i≤l.length,fun i=>l.length - i,0,?_,Nat.zero_le _,fun i hs=> ?_⟩
 ·constructor<;>(repeat' (first|exact rfl|exact True.intro|apply And.intro))
  all_goals (simp only [List.length_map,Int.toNat_natCast];rfl)
 refine⟨fun e=> ?_,fun e=> ?_⟩
 ·have hlt:i< l.length:=by have:=of_decide_eq_true e;rw [List.length_map] at this;omega
  obtain⟨a,ha⟩:∃ a,l[i]? =some a:=⟨_,List.getElem?_eq_getElem hlt⟩
  obtain⟨za,zb⟩:=hl a (List.mem_of_getElem? ha)
  have hw:IntKind.i64.wrap ((i:Int)+1)=((i+1:Nat):Int):=by rw [wrap64 _ ω ω];omega
  refine k_at (rdv a) (Int.natCast_nonneg _) (by rw [Int.toNat_natCast,List.getElem?_map,ha];rfl) rfl ?_
  refine Zs2 (t:=a.1) (u:=a.2) ω ω ω ω ω fun p q e1 e2 y1 y2=> ?_
  refine ZqF i rfl (by rw [Zj4 x y h z l i hs];exact hlt) ?_
  refine⟨by rw [Zj4 x y h z l i hs];exact hlt,?_⟩
  refine⟨i+1,hlt,by simp only;omega,?_⟩
  constructor<;>(repeat' (first|exact rfl|exact True.intro|apply And.intro))
  all_goals first
   |exact congrArg (fun n:Int=>D.v (.int .i64 n)) hw.symm
   |(rw [← Zqr x y h z l i a ha];subst e1 e2;rfl)
 ·have hge:i=l.length:=by have:=of_decide_eq_false e;rw [List.length_map] at this;omega
  subst hge
  refine Eq.trans (b:= .val (.one (.d (.list (movL x y h z l l.length))))) ?_ rfl
  unfold movL vecs
  rw [List.take_length,Nat.sub_self,List.map_map];simp [Function.comp_def]
theorem Zs8 (l:List (RV×RV)) {vv:List (List D)} (hv:vv=l.map rdv) (hx:x.z≤268435456) (hy:y.z≤268435456) (hz:z.z≤268435456) (hl:∀ p,p∈l→p.1.z≤268435456∧p.2.z≤268435456) (hn:l.length≤1073741824) (k:K (vecs (l.map (movV x y h z)))):Ask 40 [frame x y h z,.val (.one (.d (.list vv)))] K:=by
 subst hv
 exact use (ZlL x y h z l hx hy hz hl hn) rfl k
end
open Go.RowKit num mem seg q held ratA ratB ratC ratD ratE vars ratF natC natD natI sub32
section
variable {K : AV → Prop} {x y : RV}
def midQ (p o:Int) (a b:Rat):Rat:=a+(p:Rat) / (o:Rat)*(b - a)
def midL (l m:List RV) (p o:Int):List Rat:=List.zipWith (fun x y=>midQ p o x.q y.q) l m
def vr (l:List RV):List (List D):=l.map rd
theorem Zsc {l:List RV} {i:Nat} {x:RV} (h:l[i]? =some x):(vr l)[i]? =some (rd x):=by simp [vr,h]
theorem Zjl (l:List RV):(vr l).length=l.length:=by simp [vr]
theorem Zb0 (l m:List RV) (p o:Int):(midL l m p o).length=min l.length m.length:=by simp [midL]
theorem ZfY {l m:List RV} {p o:Int} {i:Nat} {x y:RV} (h1:l[i]? =some x) (h2:m[i]? =some y):(midL l m p o)[i]? =some (midQ p o x.q y.q):=by simp [midL,List.getElem?_zipWith,h1,h2]
theorem ZsW (p o:Int) (hp1:-9223372036854775808≤p) (hp2:p≤9223372036854775807) (ho1:-9223372036854775808≤o) (ho2:o≤9223372036854775807) (a b:Rat):qs (midQ p o a b)≤2*qs a+qs b+24:=by
 have h1:=Z2 hp1 hp2
 have h2:=Z2 ho1 ho2
 have h3:=ZaU (p:Rat) (o:Rat)
 have h4:=Zae b a
 have h5:=Zp ((p:Rat) / (o:Rat)) (b - a)
 have h6:=Zw a ((p:Rat) / (o:Rat)*(b - a))
 unfold midQ;omega
theorem ZnI {l m:List RV} {p o:Int} {Z:Nat} (hp1:-9223372036854775808≤p) (hp2:p≤9223372036854775807) (ho1:-9223372036854775808≤o) (ho2:o≤9223372036854775807) (hl:∀ x,x∈l→x.z≤Z) (hm:∀ x,x∈m→x.z≤Z):∀ q,q∈midL l m p o→qs q≤3*Z+27:=by
 intro q hq
 obtain⟨i,hi,rfl⟩:=List.getElem_of_mem hq
 rw [Zb0] at hi
 have e:=ZfY (p:=p) (o:=o) (List.getElem?_eq_getElem (show i< l.length by omega)) (List.getElem?_eq_getElem (show i< m.length by omega))
 have e2:(midL l m p o)[i]? =some (midL l m p o)[i]:=List.getElem?_eq_getElem (by rw [Zb0];exact hi)
 rw [e] at e2
 rw [← Option.some.inj e2]
 have h1:=ZsW p o hp1 hp2 ho1 ho2 (l[i]' ω).q (m[i]' ω).q
 have h2:=hl _ (List.getElem_mem (by omega:i< l.length))
 have h3:=hm _ (List.getElem_mem (by omega:i< m.length))
 have h4:=(l[i]' ω).z1
 have h5:=(m[i]' ω).z1
 omega
theorem Zrf (l m:List RV) (p o:Int) (hp1:-9223372036854775808≤p) (hp2:p≤9223372036854775807) (ho1:-9223372036854775808≤o) (ho2:o≤9223372036854775807) (hl:∀ x,x∈l→x.z≤16777216) (hm:∀ x,x∈m→x.z≤16777216) (hn:l.length≤1073741824) (hn':m.length≤1073741824):
  Spec Tryz.prog Tab 28 [.val (.one (.d (.list (vr l)))),.val (.one (.d (.list (vr m)))),int p,int o] (rats (midL l m p o)):=by
 have hll:=Zjl l
 have hml:=Zjl m
 have hlen:=Zb0 l m p o
 refine Za Tryz.func28 rfl rfl Tryz.ntmps28 rfl ωr rfl rfl ?_
 refine use (Ze2 p o hp1 hp2 ho1 ho2) rfl ?_
 obtain⟨r,hr⟩:∃ r,r=quotR (p:Rat) (o:Rat):=⟨_,rfl⟩
 have hrq:r.q=(p:Rat) / (o:Rat):=by
  rw [hr];unfold quotR;split
  ·rename_i h;rw [h,z0_q,Rat.div_def,Rat.inv_zero,Rat.mul_zero]
  ·rw [cn_q]
 have hrz:r.z≤17:=by
  rw [hr];unfold quotR;split
  ·rw [z0_z];omega
  ·have:=ZaU (p:Rat) (o:Rat);have:=Z2 hp1 hp2;have:=Z2 ho1 ho2;rw [cn_z];omega
 rw [← hr]
 clear hr
 have hmn:(if (((vr m).length:Nat):Int)< (((vr l).length:Nat):Int) then (((vr m).length:Nat):Int) else (((vr l).length:Nat):Int))=(((midL l m p o).length:Nat):Int):=by
  rw [hll,hml,hlen];split<;>omega
 refine⟨Nat,fun i=> [(0,.val (.one (.d (.list (vr l))))),(1,.val (.one (.d (.list (vr m))))),(9,.val (.one (.ptr 9 0))),(11,.val (.one (.row 45 0))),(23,int (((midL l m p o).length:Nat):Int)),(24,int (i:Int))],
  fun i=> [(9,.var 25 (rc r)),(45,.row 25 3 0 (RL ((midL l m p o).take i)) true)],fun i=>i≤(midL l m p o).length,fun i=>(midL l m p o).length - i,0,?_,Nat.zero_le _,fun i hi=> ?_⟩
 ·constructor<;>(repeat' (first|exact rfl|exact True.intro|exact⟨_,_,rfl⟩|exact(by decide:0< 3)|apply And.intro))
  all_goals exact congrArg (fun n:Int=>D.v (.int .i64 n)) hmn.symm
 refine⟨fun e=> ?_,fun e=> ?_⟩
 ·have hlt:i< (midL l m p o).length:=by have:=of_decide_eq_true e;omega
  obtain⟨x,hx⟩:∃ a,l[i]? =some a:=⟨_,List.getElem?_eq_getElem ω⟩
  obtain⟨y,hy⟩:∃ a,m[i]? =some a:=⟨_,List.getElem?_eq_getElem ω⟩
  have hxz:=hl x (List.mem_of_getElem? hx)
  have hyz:=hm y (List.mem_of_getElem? hy)
  have hlt2:(RL ((midL l m p o).take i)).length≤1099511627776:=by simp [RL];omega
  have hat:=ZfY (p:=p) (o:=o) hx hy
  refine k_at (rd x) (Int.natCast_nonneg _) (by rw [Int.toNat_natCast];exact Zsc hx) rfl ?_
  refine k_at (rd y) (Int.natCast_nonneg _) (by rw [Int.toNat_natCast];exact Zsc hy) rfl ?_
  refine k_at (rd x) (Int.natCast_nonneg _) (by rw [Int.toNat_natCast];exact Zsc hx) rfl ?_
  refine Zap (x:=y) (y:=x) ω ω fun q1 h1 z1=> ?_
  refine Z3 (x:=r) ω ω fun q2 h2 z2=> ?_
  refine ZaJ (x:=x) ω ω fun q3 h3 z3=> ?_
  have hq:RL ((midL l m p o).take (i+1))=RL ((midL l m p o).take i)++ [rd (cn q3)]:=by
   rw [List.take_add_one,hat]
   simp only [cn_q] at h1 h2 h3
   rw [h3,h2,h1,hrq]
   simp [RL,midQ]
  refine⟨⟨ZpW [q3],?_,?_⟩,?_⟩
  ·show ((RL ((midL l m p o).take i)).length+1)*40≤_;omega
  ·show (RL ((midL l m p o).take i)).length+1≤_;omega
  refine⟨ωr,?_⟩
  refine⟨i+1,hlt,by simp only;omega,?_⟩
  constructor<;>(repeat' (first|exact rfl|exact True.intro|apply And.intro))
  all_goals first
   |exact congrArg (fun n:Int=>D.v (.int .i64 n)) (show ((i+1:Nat):Int)=IntKind.i64.wrap ((i:Int)+1) by rw [wrap64 _ ω ω];omega)
   |(rw [hq];exact rfl)
 ·have hge:i=(midL l m p o).length:=by have:=of_decide_eq_false e;omega
  subst hge
  refine Eq.trans (b:= .val (.one (.d (.list (RL ((midL l m p o).take (midL l m p o).length)))))) ?_ rfl
  rw [List.take_length];rfl
end
structure RF where
 x:Rat
 y:Rat
 c:Rat
 s:Rat
def unitC (c s:Rat):Prop:=c*c+s*s=1
theorem Zft (h:Bool) (p:Rat):unitC (cosq h p) (sinq (tq h p)):=by
 unfold unitC
 cases h
 ·obtain⟨a1,a2,a3⟩:=Zau p
  rw [ZaT];grind
 ·rw [ZdH,ZdO,Zdr];decide+kernel
theorem Zt5 (h:Bool) (p:Rat):tofH (cosq h p)=h∧tofQ (cosq h p) (sinq (tq h p))=tq h p:=by
 cases h
 ·obtain⟨a1,a2,a3⟩:=Zau p
  exact Zgn (by grind) (by rw [ZaT];grind)
 ·exact Zdq (by rw [ZdH];decide+kernel)
theorem Zr3 {c s:Rat} (h:unitC c s):cosq (tofH c) (tofQ c s)=c∧sinq (tq (tofH c) (tofQ c s))=s:=by
 unfold unitC at h
 by_cases h1:1+c=0
 ·obtain⟨e1,e2⟩:=Zdq (s:=s) h1
  rw [e1,e2,ZdH,ZdO,Zdr]
  have hc:c=-1:=by grind
  have hs:s*s=0:=by rw [hc] at h;grind
  have:s=0:=by rcases Rat.mul_eq_zero.1 hs with h|h<;>exact h
  exact⟨hc.symm,this.symm⟩
 ·obtain⟨e1,e2⟩:=Zgn (c:=c) (s:=s) (r:=s / (1+c)) h1 (by grind)
  rw [e1,e2,ZaT]
  obtain⟨a1,a2,a3⟩:=Zau (s / (1+c))
  generalize hp:s / (1+c)=p at*
  have h2:p*(1+c)=s:=by grind
  have h3:(1+c)*(p*p)=1 - c:=by
   have:(1+c)*((1+c)*(p*p) - (1 - c))=0:=by grind
   rcases Rat.mul_eq_zero.1 this with h|h
   ·exact absurd h h1
   ·grind
  have h4:c*(1+p*p)=1 - p*p:=by grind
  have h5:s*(1+p*p)=2*p:=by rw [← h2];grind
  constructor
  ·have:(cosq false p - c)*(1+p*p)=0:=by grind
   rcases Rat.mul_eq_zero.1 this with h|h
   ·grind
   ·exact absurd h a3
  ·have:(sinq p - s)*(1+p*p)=0:=by grind
   rcases Rat.mul_eq_zero.1 this with h|h
   ·grind
   ·exact absurd h a3
theorem Zt4 (c s:Rat):tq (tofH c) (tofQ c s)=tofQ c s:=by
 unfold tofH tofQ tq
 by_cases h:((1:Int):Rat)+c=0
 ·rw [if_pos h,decide_eq_true h];rfl
 ·rw [if_neg h,decide_eq_false h];rfl
def turnF (f:RF) (t:Rat):RF:=⟨f.x,f.y,f.c*cosq false t - f.s*sinq t,f.s*cosq false t+f.c*sinq t⟩
def longF (f:RF) (l:Rat):RF:=⟨f.x+f.c*l,f.y+f.s*l,f.c,f.s⟩
def RF.u (f:RF):Prop:=unitC f.c f.s
theorem ZdL {f:RF} (h:f.u) (t:Rat):(turnF f t).u:=by
 have h2:=Zft false t
 unfold RF.u unitC turnF at*
 rw [ZaT] at h2
 simp only
 generalize cosq false t=a at*
 generalize sinq t=b at*
 grind
theorem ZnO {f:RF} (h:f.u) (l:Rat):(longF f l).u:=h
theorem Zme {f:RF} (h:f.u) (t:Rat):thnH (tofH f.c) false (tofQ f.c f.s) t=tofH (turnF f t).c∧thnQ (tofH f.c) false (tofQ f.c f.s) t=tofQ (turnF f t).c (turnF f t).s:=by
 obtain⟨h1,h2⟩:=Zr3 h
 obtain⟨h3,h4⟩:=Zpb (tofH f.c) false (tofQ f.c f.s) t
 rw [h1,h2,ZaT] at h3 h4
 refine⟨h3.symm,?_⟩
 rw [← h4]
 show _=tofQ (f.c*cosq false t - f.s*sinq t) (f.s*cosq false t+f.c*sinq t)
 rfl
theorem Zmx (c s:Rat) {t:Rat} (ht:t=0):thnH (tofH c) false (tofQ c s) t=tofH c∧thnQ (tofH c) false (tofQ c s) t=tofQ c s:=by
 subst ht
 obtain⟨h1,h2⟩:=Zpt (tofH c) (tofQ c s)
 exact⟨h1,h2.trans (Zt4 c s)⟩
theorem Zl5 {f:RF} (h:f.u) (x y:Rat):vtX (tofH f.c) (tofQ f.c f.s) x y=x*f.c - y*f.s∧vtY (tofH f.c) (tofQ f.c f.s) x y=x*f.s+y*f.c:=by
 obtain⟨h1,h2⟩:=Zr3 h
 unfold vtX vtY
 rw [h1,h2]
 exact⟨rfl,rfl⟩
def baseF (A:ArmV):RF:=⟨A.bx.q,A.by'.q,cosq A.bh A.bt.q,sinq (tq A.bh A.bt.q)⟩
def qAt (Q:List RV) (i:Nat):Rat:=((Q[i]?).getD z0).q
def lenAt (A:ArmV) (i:Nat):Rat:=((A.links[i]?).getD ⟨z0,z0,z0,z0,z0, []⟩).len.q
def endF (A:ArmV) (Q:List RV):Nat→RF
 |0=>baseF A
 |i+1=>longF (turnF (endF A Q i) (qAt Q i)) (lenAt A i)
def linkF (A:ArmV) (Q:List RV) (i:Nat):RF:=turnF (endF A Q i) (qAt Q i)
def linksF (A:ArmV) (Q:List RV) (n:Nat):List RF:=(List.range n).map (linkF A Q)
def framesF (A:ArmV) (Q:List RV):List RF:=linksF A Q A.links.length++ [endF A Q A.links.length]
theorem ZbF {Q:List RV} {i:Nat} {x:RV} (h:Q[i]? =some x):qAt Q i=x.q:=by simp [qAt,h]
theorem Zj7 {A:ArmV} {i:Nat} {l:LinkV} (h:A.links[i]? =some l):lenAt A i=l.len.q:=by simp [lenAt,h]
theorem Zhx (A:ArmV) (Q:List RV):∀ i,(endF A Q i).u
 |0=>Zft _ _
 |i+1=>ZnO (ZdL (Zhx A Q i) _) _
theorem ZiJ (A:ArmV) (Q:List RV) (i:Nat):(linkF A Q i).u:=ZdL (Zhx A Q i) _
theorem Zbd (A:ArmV) (Q:List RV) (n:Nat):(linksF A Q n).length=n:=by simp [linksF]
theorem Zei (A:ArmV) (Q:List RV):(framesF A Q).length=A.links.length+1:=by simp [framesF,linksF]
theorem ZnP {A:ArmV} {Q:List RV} {n i:Nat} {f:RF} (h:(linksF A Q n)[i]? =some f):f=linkF A Q i∧i< n:=by
 have hi:=(List.getElem?_eq_some_iff.1 h).1
 rw [Zbd] at hi
 simp [linksF,hi] at h
 exact⟨h.symm,hi⟩
theorem Zhq {A:ArmV} {Q:List RV} {f:RF} (h:(framesF A Q)[A.links.length]? =some f):f=endF A Q A.links.length:=by
 rw [framesF,List.getElem?_append_right (by rw [Zbd];exact Nat.le_refl _),Zbd,Nat.sub_self] at h
 simpa using h.symm
def rdF (f:RF):List D:=rd (cn f.x)++rd (cn f.y)++ [D.v (.bool (tofH f.c))]++rd (cn (tofQ f.c f.s))
theorem ZiI {α:Type} (g:RF→α) (A:ArmV) (Q:List RV) (i:Nat):List.map g (linksF A Q (i+1))=List.map g (linksF A Q i)++ [g (linkF A Q i)]:=by
 simp [linksF,List.range_succ]
theorem Zil (p:Rat):qs (cosq false p)≤4*qs p+34∧qs (sinq p)≤4*qs p+34:=by
 have h1:qs ((1:Int):Rat)≤8:=Z2 (n:=1) ω ω
 have:=Zp p p
 have:=Zae ((1:Int):Rat) (p*p)
 have:=Zw ((1:Int):Rat) (p*p)
 have:=ZaU (((1:Int):Rat) - p*p) (((1:Int):Rat)+p*p)
 have:=Zw p p
 have:=ZaU (p+p) (((1:Int):Rat)+p*p)
 exact⟨by unfold cosq;simp only [Bool.false_eq_true,if_false];omega,by unfold sinq;omega⟩
theorem ZkL {A:ArmV} (hA:armE A=0):qs (baseF A).x≤4∧qs (baseF A).y≤4∧qs (baseF A).c≤66∧qs (baseF A).s≤66:=by
 obtain⟨_,_,h1,h2,h3,_,_⟩:=ZaF hA
 have z1:=ZD h1
 have z2:=ZD h2
 have z3:=ZD h3
 have q1:=A.bx.qs_le
 have q2:=A.by'.qs_le
 have q3:=A.bt.qs_le
 obtain⟨c1,c2⟩:=Zil A.bt.q
 refine⟨by show qs A.bx.q≤4;omega,by show qs A.by'.q≤4;omega,?_,?_⟩
 ·show qs (cosq A.bh A.bt.q)≤66
  cases A.bh
  ·omega
  ·rw [show cosq true A.bt.q=((-1:Int):Rat) from rfl]
   have:qs ((-1:Int):Rat)≤8:=Z2 (n:=-1) ω ω
   omega
 ·show qs (sinq (tq A.bh A.bt.q))≤66
  cases A.bh
  ·rw [ZaT];omega
  ·rw [ZdO,Zdr];decide+kernel
theorem Zmc {f:RF} {t:Rat} {a:Nat} (hc:qs f.c≤a) (hs:qs f.s≤a) (ht:qs t≤2097152):qs (turnF f t).c≤2*a+16777285∧qs (turnF f t).s≤2*a+16777285:=by
 obtain⟨c1,c2⟩:=Zil t
 have:=Zp f.c (cosq false t)
 have:=Zp f.s (sinq t)
 have:=Zp f.s (cosq false t)
 have:=Zp f.c (sinq t)
 have:=Zae (f.c*cosq false t) (f.s*sinq t)
 have:=Zw (f.s*cosq false t) (f.c*sinq t)
 exact⟨by show qs (f.c*cosq false t - f.s*sinq t)≤_;omega,by show qs (f.s*cosq false t+f.c*sinq t)≤_;omega⟩
theorem Zg7 {f:RF} {l:Rat} {a b:Nat} (hx:qs f.x≤b) (hy:qs f.y≤b) (hc:qs f.c≤a) (hs:qs f.s≤a) (hl:qs l≤4):qs (longF f l).x≤b+a+5∧qs (longF f l).y≤b+a+5:=by
 have:=Zp f.c l
 have:=Zp f.s l
 have:=Zw f.x (f.c*l)
 have:=Zw f.y (f.s*l)
 exact⟨by show qs (f.x+f.c*l)≤_;omega,by show qs (f.y+f.s*l)≤_;omega⟩
theorem ZsI {Q:List RV} (hQ:∀ x,x∈Q→x.z≤2097152) (i:Nat):qs (qAt Q i)≤2097152:=by
 unfold qAt
 cases h:Q[i]? with
 |none=>show qs z0.q≤_;decide+kernel
 |some x=>
  have:=hQ x (List.mem_of_getElem? h)
  have:=x.qs_le
  show qs x.q≤_;omega
theorem Zc3 {A:ArmV} (hA:armE A=0) (i:Nat):qs (lenAt A i)≤4:=by
 unfold lenAt
 cases h:A.links[i]? with
 |none=>show qs z0.q≤_;decide+kernel
 |some l=>
  have:=ZD (ZR hA (List.mem_of_getElem? h)).1
  have:=l.len.qs_le
  show qs l.len.q≤_;omega
theorem ZtC {A:ArmV} {Q:List RV} (hA:armE A=0) (hQ:∀ x,x∈Q→x.z≤2097152):
  ∀ i,i≤3→(qs (endF A Q i).x≤184551078∧qs (endF A Q i).y≤184551078∧qs (endF A Q i).c≤117441523∧qs (endF A Q i).s≤117441523)∧(i< 3→qs (linkF A Q i).x≤184551078∧qs (linkF A Q i).y≤184551078∧qs (linkF A Q i).c≤117441523∧qs (linkF A Q i).s≤117441523):=by
 obtain⟨b1,b2,b3,b4⟩:=ZkL hA
 have t0:=Zmc (t:=qAt Q 0) b3 b4 (ZsI hQ 0)
 have l0:=Zg7 (f:=linkF A Q 0) (l:=lenAt A 0) (b:=4) b1 b2 t0.1 t0.2 (Zc3 hA 0)
 have t1:=Zmc (f:=endF A Q 1) (t:=qAt Q 1) t0.1 t0.2 (ZsI hQ 1)
 have l1:=Zg7 (f:=linkF A Q 1) (l:=lenAt A 1) l0.1 l0.2 t1.1 t1.2 (Zc3 hA 1)
 have t2:=Zmc (f:=endF A Q 2) (t:=qAt Q 2) t1.1 t1.2 (ZsI hQ 2)
 have l2:=Zg7 (f:=linkF A Q 2) (l:=lenAt A 2) l1.1 l1.2 t2.1 t2.2 (Zc3 hA 2)
 have up:∀ {n a b:Nat},n≤a→a≤b→n≤b:=fun h g=>Nat.le_trans h g
 intro i hi
 rcases (show i=0∨i=1∨i=2∨i=3 by omega) with rfl|rfl|rfl|rfl
 ·exact⟨⟨up b1 ω,up b2 ω,up b3 ω,up b4 ω⟩,fun _=>⟨up b1 ω,up b2 ω,up t0.1 ω,up t0.2 ω⟩⟩
 ·exact⟨⟨up l0.1 ω,up l0.2 ω,up t0.1 ω,up t0.2 ω⟩,fun _=>⟨up l0.1 ω,up l0.2 ω,up t1.1 ω,up t1.2 ω⟩⟩
 ·exact⟨⟨up l1.1 ω,up l1.2 ω,up t1.1 ω,up t1.2 ω⟩,fun _=>⟨up l1.1 ω,up l1.2 ω,up t2.1 ω,up t2.2 ω⟩⟩
 ·exact⟨⟨up l2.1 ω,up l2.2 ω,up t2.1 ω,up t2.2 ω⟩,fun h=>absurd h ω⟩
theorem Zsh {f:RF} (hc:qs f.c≤117441523) (hs:qs f.s≤117441523):qs (tofQ f.c f.s)≤234883080:=by
 have h1:qs ((1:Int):Rat)≤8:=Z2 (n:=1) ω ω
 have:=Zw ((1:Int):Rat) f.c
 have:=ZaU f.s (((1:Int):Rat)+f.c)
 unfold tofQ
 split
 ·have:qs ((0:Int):Rat)≤8:=Z2 (n:=0) ω ω
  omega
 ·omega
