/- Contracts: slices.Equal of numbers, gantlaw3.equal, gantref3.Back, clear.Between, gantref3.Mid. -/
import Derived.Test.YtpejadencgfnnaaGreatDoorGrpO
namespace Go.Proofs.YtpejadencgfnnaaGreatDoor.eng
open Go.RowKit num mem seg q held ratA ratB ratC ratD ratE vars ratF natC natD natI sub32
section
variable {K : AV → Prop} {x y : RV}
def q3d (q:Rat):List D:= [.v (.bool (decide (q.num< 0))),.list (W (w32 q.num.natAbs)),.list (W (w32 q.den))]
def QL (l:List Rat):List (List D):=l.map q3d
theorem ZpH {l:List Rat} {i:Nat} {q:Rat} (h:l[i]? =some q):(QL l)[i]? =some (q3d q):=by simp [QL,h]
theorem ZsW (l:List Rat):(QL l).length=l.length:=by simp [QL]
theorem ZnX (l:List Rat):∀ row,row∈QL l→row.length=3:=by
 intro row hr
 obtain⟨q,_,rfl⟩:=List.mem_map.1 hr
 rfl
def midQ (p o:Int) (a b:Rat):Rat:=a+(p:Rat) / (o:Rat)*(b - a)
def midL (l m:List RV) (p o:Int):List Rat:=List.zipWith (fun x y=>midQ p o x.q y.q) l m
def vr (l:List RV):List (List D):=l.map rd
theorem Zk4 {l:List RV} {i:Nat} {x:RV} (h:l[i]? =some x):(vr l)[i]? =some (rd x):=by simp [vr,h]
theorem Zdh (l:List RV):(vr l).length=l.length:=by simp [vr]
theorem Zan (l m:List RV) (p o:Int):(midL l m p o).length=min l.length m.length:=by simp [midL]
theorem ZhW {l m:List RV} {p o:Int} {i:Nat} {x y:RV} (h1:l[i]? =some x) (h2:m[i]? =some y):(midL l m p o)[i]? =some (midQ p o x.q y.q):=by simp [midL,List.getElem?_zipWith,h1,h2]
theorem ZqU (p o:Int) (hp1:-9223372036854775808≤p) (hp2:p≤9223372036854775807) (ho1:-9223372036854775808≤o) (ho2:o≤9223372036854775807) (a b:Rat):qs (midQ p o a b)≤2*qs a+qs b+24:=by
 have h1:=ZaL hp1 hp2
 have h2:=ZaL ho1 ho2
 have h3:=Zb5 (p:Rat) (o:Rat)
 have h4:=Zaf b a
 have h5:=ZT ((p:Rat) / (o:Rat)) (b - a)
 have h6:=ZL a ((p:Rat) / (o:Rat)*(b - a))
 unfold midQ;omega
theorem Zc3 {l m:List RV} {p o:Int} {Z:Nat} (hp1:-9223372036854775808≤p) (hp2:p≤9223372036854775807) (ho1:-9223372036854775808≤o) (ho2:o≤9223372036854775807) (hl:∀ x,x∈l→x.z≤Z) (hm:∀ x,x∈m→x.z≤Z):∀ q,q∈midL l m p o→qs q≤3*Z+27:=by
 intro q hq
 obtain⟨i,hi,rfl⟩:=List.getElem_of_mem hq
 rw [Zan] at hi
 have e:=ZhW (p:=p) (o:=o) (List.getElem?_eq_getElem (show i< l.length by omega)) (List.getElem?_eq_getElem (show i< m.length by omega))
 have e2:(midL l m p o)[i]? =some (midL l m p o)[i]:=List.getElem?_eq_getElem (by rw [Zan];exact hi)
 rw [e] at e2
 rw [← Option.some.inj e2]
 have h1:=ZqU p o hp1 hp2 ho1 ho2 (l[i]'(by omega)).q (m[i]'(by omega)).q
 have h2:=hl _ (List.getElem_mem (by omega:i< l.length))
 have h3:=hm _ (List.getElem_mem (by omega:i< m.length))
 have h4:=(l[i]'(by omega)).z1
 have h5:=(m[i]'(by omega)).z1
 omega
set_option maxRecDepth 100000 in
theorem ZpK (l m:List RV) (p o:Int) (hp1:-9223372036854775808≤p) (hp2:p≤9223372036854775807) (ho1:-9223372036854775808≤o) (ho2:o≤9223372036854775807) (hl:∀ x,x∈l→x.z≤16777216) (hm:∀ x,x∈m→x.z≤16777216) (hn:l.length≤1073741824) (hn':m.length≤1073741824):
  Spec Tryz.prog Tab 202 [.val (.one (.d (.list (vr l)))),.val (.one (.d (.list (vr m)))),int p,int o] (rats (midL l m p o)):=by
 have hll:=Zdh l
 have hml:=Zdh m
 have hlen:=Zan l m p o
 refine Za Tryz.func202 rfl rfl Tryz.ntmps202 rfl (by kernel_rfl) rfl rfl ?_
 refine use (Zj6 p o hp1 hp2 ho1 ho2) rfl ?_
 obtain⟨r,hr⟩:∃ r,r=quotR (p:Rat) (o:Rat):=⟨_,rfl⟩
 have hrq:r.q=(p:Rat) / (o:Rat):=by
  rw [hr];unfold quotR;split
  ·rename_i h;rw [h,z0_q,Rat.div_def,Rat.inv_zero,Rat.mul_zero]
  ·rw [cn_q]
 have hrz:r.z≤17:=by
  rw [hr];unfold quotR;split
  ·rw [z0_z];omega
  ·have:=Zb5 (p:Rat) (o:Rat);have:=ZaL hp1 hp2;have:=ZaL ho1 ho2;rw [cn_z];omega
 rw [← hr]
 clear hr
 have hmn:(if (((vr m).length:Nat):Int)< (((vr l).length:Nat):Int) then (((vr m).length:Nat):Int) else (((vr l).length:Nat):Int))=(((midL l m p o).length:Nat):Int):=by
  rw [hll,hml,hlen];split<;>omega
 refine⟨Nat,fun i=> [(0,.val (.one (.d (.list (vr l))))),(1,.val (.one (.d (.list (vr m))))),(9,.val (.one (.ptr 9 0))),(11,.val (.one (.row 45 0))),(23,int (((midL l m p o).length:Nat):Int)),(24,int (i:Int))],
  fun i=> [(9,.var 23 (rc r)),(45,.row 23 3 0 (RL ((midL l m p o).take i)) true)],fun i=>i≤(midL l m p o).length,fun i=>(midL l m p o).length - i,0,?_,Nat.zero_le _,fun i hi=> ?_⟩
 ·constructor<;>(repeat' (first|exact rfl|exact True.intro|exact⟨_,_,rfl⟩|exact(by decide:0< 3)|apply And.intro))
  all_goals exact congrArg (fun n:Int=>D.v (.int .i64 n)) hmn.symm
 refine⟨fun e=> ?_,fun e=> ?_⟩
 ·have hlt:i< (midL l m p o).length:=by have:=of_decide_eq_true e;omega
  obtain⟨x,hx⟩:∃ a,l[i]? =some a:=⟨_,List.getElem?_eq_getElem (by omega)⟩
  obtain⟨y,hy⟩:∃ a,m[i]? =some a:=⟨_,List.getElem?_eq_getElem (by omega)⟩
  have hxz:=hl x (List.mem_of_getElem? hx)
  have hyz:=hm y (List.mem_of_getElem? hy)
  have hlt2:(RL ((midL l m p o).take i)).length≤1099511627776:=by simp [RL];omega
  have hat:=ZhW (p:=p) (o:=o) hx hy
  refine k_at (rd x) (Int.natCast_nonneg _) (by rw [Int.toNat_natCast];exact Zk4 hx) rfl ?_
  refine k_at (rd y) (Int.natCast_nonneg _) (by rw [Int.toNat_natCast];exact Zk4 hy) rfl ?_
  refine k_at (rd x) (Int.natCast_nonneg _) (by rw [Int.toNat_natCast];exact Zk4 hx) rfl ?_
  refine ZgW (x:=y) (y:=x) (by omega) (by omega) fun q1 h1 z1=> ?_
  refine ZcF (x:=r) (by omega) (by omega) fun q2 h2 z2=> ?_
  refine Zeu (x:=x) (by omega) (by omega) fun q3 h3 z3=> ?_
  have hq:RL ((midL l m p o).take (i+1))=RL ((midL l m p o).take i)++ [rd (cn q3)]:=by
   rw [List.take_add_one,hat]
   simp only [cn_q] at h1 h2 h3
   rw [h3,h2,h1,hrq]
   simp [RL,midQ]
  refine⟨⟨ZiT [q3],?_,?_⟩,?_⟩
  ·show ((RL ((midL l m p o).take i)).length+1)*40≤_;omega
  ·show (RL ((midL l m p o).take i)).length+1≤_;omega
  refine⟨by kernel_rfl,?_⟩
  refine⟨i+1,hlt,by simp only;omega,?_⟩
  constructor<;>(repeat' (first|exact rfl|exact True.intro|apply And.intro))
  all_goals first
   |exact congrArg (fun n:Int=>D.v (.int .i64 n)) (show ((i+1:Nat):Int)=IntKind.i64.wrap ((i:Int)+1) by rw [wrap64 _ (by omega) (by omega)];omega)
   |(rw [hq];exact rfl)
 ·have hge:i=(midL l m p o).length:=by have:=of_decide_eq_false e;omega
  subst hge
  refine Eq.trans (b:= .val (.one (.d (.list (RL ((midL l m p o).take (midL l m p o).length)))))) ?_ rfl
  rw [List.take_length];rfl
end
end Go.Proofs.YtpejadencgfnnaaGreatDoor.eng
