/- Joined by wip/bundle.py: XEngFrame XEngFrame2. -/
import Derived.Test.YtiekmbmgpachpaaGreatDoorGrpS
set_option maxRecDepth 100000
namespace Go.Proofs.YtiekmbmgpachpaaGreatDoor.eng
open Go.RowKit num mem seg q held ratA ratB ratC ratD ratE vars ratF trq
section
variable {x y z t u v : RV} {h : Bool} {K : AV → Prop}
def vtX (h:Bool) (p x y:Rat):Rat:=x*cosq h p - y*sinq (tq h p)
def vtY (h:Bool) (p x y:Rat):Rat:=x*sinq (tq h p)+y*cosq h p
theorem ZiL (h:Bool) (x y z:RV) (hx:x.z≤268435456) (hy:y.z≤268435456) (hz:z.z≤268435456):Spec Tryz.prog Tab 94 [pair x y,turn h z] (pair (cn (vtX h z.q x.q y.q)) (cn (vtY h z.q x.q y.q))):=by
 refine Zd Tryz.func94 rfl rfl Tryz.ntmps94 rfl (by kernel_rfl) rfl rfl ?_
 refine Zqq (by omega) fun q1 h1 z1=> ?_
 try simp only [cn_q] at h1
 refine Zqp (by omega) fun q2 h2 z2=> ?_
 try simp only [cn_q] at h2
 refine⟨by kernel_rfl,?_⟩
 refine ZaL (by omega) (by omega) fun q3 h3 z3=> ?_
 try simp only [cn_q] at h3
 refine ZaL (by omega) (by omega) fun q4 h4 z4=> ?_
 try simp only [cn_q] at h4
 refine Zjk (by omega) (by omega) fun q5 h5 z5=> ?_
 try simp only [cn_q] at h5
 refine ZaL (by omega) (by omega) fun q6 h6 z6=> ?_
 try simp only [cn_q] at h6
 refine ZaL (by omega) (by omega) fun q7 h7 z7=> ?_
 try simp only [cn_q] at h7
 refine Zcj (by omega) (by omega) fun q8 h8 z8=> ?_
 try simp only [cn_q] at h8
 refine⟨by kernel_rfl,?_⟩
 refine Eq.trans (b:=pair (cn _) (cn _)) ?_ rfl
 subst_vars;rfl
theorem ZmP (h:Bool) (p x y:Rat):qs (vtX h p x y)≤qs x+qs y+8*qs p+200∧qs (vtY h p x y)≤qs x+qs y+8*qs p+200:=by
 have h1:=ZkG h p
 have h2:=ZkD (tq h p)
 have h3:qs (tq h p)≤qs p+8:=by
  unfold tq;split
  ·have:=qs_0;omega
  ·omega
 have:=ZT x (cosq h p)
 have:=ZT y (sinq (tq h p))
 have:=ZT x (sinq (tq h p))
 have:=ZT y (cosq h p)
 have:=Zby (x*cosq h p) (y*sinq (tq h p))
 have:=Z8 (x*sinq (tq h p)) (y*cosq h p)
 unfold vtX vtY
 constructor<;>omega
theorem Zo0 (hx:x.z≤268435456) (hy:y.z≤268435456) (hz:z.z≤268435456) (k:∀ p q,p=vtX h z.q x.q y.q→q=vtY h z.q x.q y.q→(cn p).z≤x.z+y.z+8*z.z+240→(cn q).z≤x.z+y.z+8*z.z+240→K (pair (cn p) (cn q))):Ask 94 [pair x y,turn h z] K:=
 use (ZiL h x y z hx hy hz) rfl (k _ _ rfl rfl (by have:=(ZmP h z.q x.q y.q).1;have:=x.z1;have:=y.z1;have:=z.z1;rw [cn_z];omega) (by have:=(ZmP h z.q x.q y.q).2;have:=x.z1;have:=y.z1;have:=z.z1;rw [cn_z];omega))
theorem ZmS (x y:RV) (h:Bool) (z t u:RV) (hx:x.z≤268435456) (hy:y.z≤268435456) (hz:z.z≤268435456) (ht:t.z≤268435456) (hu:u.z≤268435456):Spec Tryz.prog Tab 52 [frame x y h z,pair t u] (pair (cn (x.q+vtX h z.q t.q u.q)) (cn (y.q+vtY h z.q t.q u.q))):=by
 refine Zd Tryz.func52 rfl rfl Tryz.ntmps52 rfl (by kernel_rfl) rfl rfl ?_
 refine Zo0 (by omega) (by omega) (by omega) fun p1 q1 e1 h1 y1 z1=> ?_
 try simp only [cn_q] at e1 h1
 refine ZfP (by omega) (by omega) (by omega) (by omega) fun p2 q2 e2 h2 y2 z2=> ?_
 try simp only [cn_q] at e2 h2
 refine⟨by kernel_rfl,?_⟩
 refine Eq.trans (b:=pair (cn _) (cn _)) ?_ rfl
 subst_vars;rfl
end
end Go.Proofs.YtiekmbmgpachpaaGreatDoor.eng
namespace Go.Proofs.YtiekmbmgpachpaaGreatDoor.eng
open Go.RowKit num mem seg q held ratA ratB ratC ratD ratE vars ratF trq
section
variable {x y z t u v w x2 y2 z2 : RV} {h g : Bool} {K : AV → Prop}
theorem Zrx (hx:x.z≤268435456) (hy:y.z≤268435456) (hz:z.z≤268435456) (ht:t.z≤268435456) (hu:u.z≤268435456) (k:∀ p q,p=x.q+vtX h z.q t.q u.q→q=y.q+vtY h z.q t.q u.q→(cn p).z≤x.z+t.z+u.z+8*z.z+260→(cn q).z≤y.z+t.z+u.z+8*z.z+260→K (pair (cn p) (cn q))):Ask 52 [frame x y h z,pair t u] K:=
 use (ZmS x y h z t u hx hy hz ht hu) rfl (k _ _ rfl rfl (by have:=Z8 x.q (vtX h z.q t.q u.q);have:=(ZmP h z.q t.q u.q).1;have:=x.z1;have:=t.z1;have:=u.z1;have:=z.z1;rw [cn_z];omega) (by have:=Z8 y.q (vtY h z.q t.q u.q);have:=(ZmP h z.q t.q u.q).2;have:=y.z1;have:=t.z1;have:=u.z1;have:=z.z1;rw [cn_z];omega))
def movV (x y:RV) (h:Bool) (z:RV) (p:RV×RV):RV×RV:=(cn (x.q+vtX h z.q p.1.q p.2.q),cn (y.q+vtY h z.q p.1.q p.2.q))
def movL (x y:RV) (h:Bool) (z:RV) (l:List (RV×RV)) (i:Nat):List (List D):=((l.take i).map fun p=>rdv (movV x y h z p))++List.replicate (l.length - i) (rdv (z0,z0))
theorem Zm2 (x y:RV) (h:Bool) (z:RV) (l:List (RV×RV)) (i:Nat) (a:RV×RV) (ha:l[i]? =some a):(movL x y h z l i).set i (rdv (movV x y h z a))=movL x y h z l (i+1):=by
 have hlt:i< l.length:=(List.getElem?_eq_some_iff.1 ha).1
 unfold movL
 rw [List.take_add_one,ha]
 have h1:((l.take i).map fun p=>rdv (movV x y h z p)).length=i:=by rw [List.length_map,List.length_take];omega
 rw [List.set_append_right _ _ (by omega),h1,Nat.sub_self]
 have h2:l.length - i=(l.length - (i+1))+1:=by omega
 rw [h2,List.replicate_succ]
 simp
theorem ZhW (x y:RV) (h:Bool) (z:RV) (l:List (RV×RV)) (i:Nat) (hi:i≤l.length):(movL x y h z l i).length=l.length:=by
 unfold movL
 simp only [List.length_append,List.length_map,List.length_take,List.length_replicate];omega
theorem Znf {xs:List (List D)} {m:Int} {o v n:Nat} (i:Nat) (hm:m=(i:Int)) (h:i< xs.length) (k:K (.val (.one (.rp o v n i 0)))):
  ∃ r,(0≤m∧m< (xs.length:Int)∧r= .val (.one (.rp o v n m.toNat 0)))∧K r:=⟨_,⟨by omega,by omega,rfl⟩,by subst hm;exact k⟩
theorem Zjz (x y:RV) (h:Bool) (z:RV) (l:List (RV×RV)) (hx:x.z≤268435456) (hy:y.z≤268435456) (hz:z.z≤268435456) (hl:∀ p,p∈l→p.1.z≤268435456∧p.2.z≤268435456) (hn:l.length≤1073741824):
  Spec Tryz.prog Tab 14 [frame x y h z,vecs l] (vecs (l.map (movV x y h z))):=by
 refine Zd Tryz.func14 rfl rfl Tryz.ntmps14 rfl (by kernel_rfl) rfl rfl ?_
 refine⟨⟨Int.natCast_nonneg _,rfl,by rw [List.length_map];show ((l.length:Nat):Int)*((80:Nat):Int)≤_;omega,by rw [List.length_map];omega⟩,?_⟩
 refine⟨Nat,fun i=> [(5,.val (.one (.row 10 0))),(11,vecs l),(12,int (((l.map rdv).length:Nat):Int)),(13,int (i:Int)),(2,.val (.one (.ptr 2 0)))],
  fun i=> [(2,.var 47 (rc x++rc y++ [.d (.v (.bool h))]++rc z)),(10,.row 36 6 0 (movL x y h z l i) true)],
  fun i=>i≤l.length,fun i=>l.length - i,0,?_,Nat.zero_le _,fun i hs=> ?_⟩
 ·constructor<;>(repeat' (first|exact rfl|exact True.intro|apply And.intro))
  all_goals (simp only [List.length_map,Int.toNat_natCast];rfl)
 refine⟨fun e=> ?_,fun e=> ?_⟩
 ·have hlt:i< l.length:=by have:=of_decide_eq_true e;rw [List.length_map] at this;omega
  obtain⟨a,ha⟩:∃ a,l[i]? =some a:=⟨_,List.getElem?_eq_getElem hlt⟩
  obtain⟨za,zb⟩:=hl a (List.mem_of_getElem? ha)
  have hw:IntKind.i64.wrap ((i:Int)+1)=((i+1:Nat):Int):=by rw [wrap64 _ (by omega) (by omega)];omega
  refine k_at (rdv a) (Int.natCast_nonneg _) (by rw [Int.toNat_natCast,List.getElem?_map,ha];rfl) rfl ?_
  refine Zrx (t:=a.1) (u:=a.2) (by omega) (by omega) (by omega) (by omega) (by omega) fun p q e1 e2 y1 y2=> ?_
  refine Znf i rfl (by rw [ZhW x y h z l i hs];exact hlt) ?_
  refine⟨by rw [ZhW x y h z l i hs];exact hlt,?_⟩
  refine⟨i+1,hlt,by simp only;omega,?_⟩
  constructor<;>(repeat' (first|exact rfl|exact True.intro|apply And.intro))
  all_goals first
   |exact congrArg (fun n:Int=>D.v (.int .i64 n)) hw.symm
   |(rw [← Zm2 x y h z l i a ha];subst e1 e2;rfl)
 ·have hge:i=l.length:=by have:=of_decide_eq_false e;rw [List.length_map] at this;omega
  subst hge
  refine Eq.trans (b:= .val (.one (.d (.list (movL x y h z l l.length))))) ?_ rfl
  unfold movL vecs
  rw [List.take_length,Nat.sub_self,List.map_map];simp [Function.comp_def]
theorem Zo6 (l:List (RV×RV)) {vv:List (List D)} (hv:vv=l.map rdv) (hx:x.z≤268435456) (hy:y.z≤268435456) (hz:z.z≤268435456) (hl:∀ p,p∈l→p.1.z≤268435456∧p.2.z≤268435456) (hn:l.length≤1073741824) (k:K (vecs (l.map (movV x y h z)))):Ask 14 [frame x y h z,.val (.one (.d (.list vv)))] K:=by
 subst hv
 exact use (Zjz x y h z l hx hy hz hl hn) rfl k
end
end Go.Proofs.YtiekmbmgpachpaaGreatDoor.eng
