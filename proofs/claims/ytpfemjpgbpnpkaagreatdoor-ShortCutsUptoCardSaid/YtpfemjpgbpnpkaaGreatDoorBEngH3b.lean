/- Contracts: slices.Equal of numbers, gantlaw3.equal, gantref3.Back, clear.Between, gantref3.Mid. -/
import Derived.Test.YtpfemjpgbpnpkaaGreatDoorBGrpO
set_option maxRecDepth 100000
namespace Go.Proofs.YtpfemjpgbpnpkaaGreatDoor.eng
open Go.RowKit num mem seg q held ratA ratB ratC ratD ratE vars ratF natC natD natI sub32
section
variable {K : AV → Prop} {x y : RV}
theorem Zmx (l:List Rat):rats l= .val (.one (.d (.list (RL l)))):=rfl
theorem ZoV {α:Type} {l m:List α} {i:Nat} {a:α} (h:l.take i=m.take i) (h1:l[i]? =some a) (h2:m[i]? =some a):l.take (i+1)=m.take (i+1):=by
 rw [List.take_add_one,List.take_add_one,h,h1,h2]
theorem Zqu (l m:List Rat) (hn:l.length≤1099511627776) (hm:m.length≤1099511627776):Spec Tryz.prog Tab 152 [rats l,rats m] (bool (decide (l=m))):=by
 have:=hn
 have hl:(RL l).length=l.length:=ZoF l
 have hml:(RL m).length=m.length:=ZoF m
 have bad:l≠m→bool (decide (l=m))=bool false:=fun h=>by rw [decide_eq_false h]
 rw [Zmx,Zmx]
 refine Za Tryz.func152 rfl rfl Tryz.ntmps152 rfl (by kernel_rfl) rfl rfl ?_
 refine⟨fun e=> ?_,fun e=> ?_⟩
 ·refine bad fun h=> ?_
  have e':((((RL l).length:Nat):Int) !=(((RL m).length:Nat):Int))=true:=e
  rw [h] at e';simp at e'
 have hlm:l.length=m.length:=by
  have e':((((RL l).length:Nat):Int) !=(((RL m).length:Nat):Int))=false:=e
  rw [hl,hml] at e';simp at e';omega
 refine⟨Nat,fun i=> [(0,.val (.one (.d (.list (RL l))))),(1,.val (.one (.d (.list (RL m))))),(12,int (((RL l).length:Nat):Int)),(13,int (i:Int))],fun _=> [],fun i=>i≤l.length∧l.take i=m.take i,fun i=>l.length - i,0,?_,⟨Nat.zero_le _,rfl⟩,fun i hi=> ?_⟩
 ·constructor<;>(repeat' (first|exact rfl|exact True.intro|apply And.intro))
 obtain⟨hi,htk⟩:=hi
 refine⟨fun e=> ?_,fun e=> ?_⟩
 ·have h1:=of_decide_eq_true e
  have hil:i< l.length:=by omega
  obtain⟨a,ha⟩:∃ a,l[i]? =some a:=⟨_,List.getElem?_eq_getElem hil⟩
  obtain⟨b,hb⟩:∃ b,m[i]? =some b:=⟨_,List.getElem?_eq_getElem (by omega)⟩
  refine k_at (rd (cn a)) (Int.natCast_nonneg _) (by rw [Int.toNat_natCast];exact Zls ha) rfl ?_
  refine k_at (rd (cn b)) (Int.natCast_nonneg _) (by rw [Int.toNat_natCast];exact Zls hb) rfl ?_
  by_cases hab:a=b
  ·subst hab
   refine Zej (x:=cn a) (y:=cn a) (fun _=> ?_) (fun h=>absurd rfl h)
   refine⟨by kernel_rfl,?_⟩
   refine⟨fun e=>by simp at e,fun _=> ?_⟩
   refine⟨i+1,⟨hil,ZoV htk ha hb⟩,by simp only;omega,?_⟩
   constructor<;>(repeat' (first|exact rfl|exact True.intro|apply And.intro))
   all_goals exact congrArg (fun n:Int=>D.v (.int .i64 n)) (show ((i+1:Nat):Int)=IntKind.i64.wrap ((i:Int)+1) by rw [wrap64 _ (by omega) (by omega)];omega)
  ·refine Zej (x:=cn a) (y:=cn b) (fun h=>absurd (ZtF.1 h) hab) (fun _=> ?_)
   refine⟨by kernel_rfl,?_⟩
   refine⟨fun _=> ?_,fun e=>by simp at e⟩
   refine bad fun h=>hab ?_
   rw [h,hb] at ha
   exact(Option.some.inj ha).symm
 ·have h1:=of_decide_eq_false e
  have hil:i=l.length:=by omega
  subst hil
  refine Eq.trans (b:=bool true) ?_ rfl
  rw [List.take_length,List.take_of_length_le (by omega)] at htk
  rw [decide_eq_true htk]
theorem ZpU (l m:List Rat) {u v:List (List D)} (hu:u=RL l) (hv:v=RL m) (hn:l.length≤1099511627776) (hm:m.length≤1099511627776) (k:∀ b,b=decide (l=m)→K (bool b)):Ask 49 [.val (.one (.d (.list u))),.val (.one (.d (.list v)))] K:=by
 subst hu hv
 refine use (r:=bool (decide (l=m))) ?_ rfl (k _ rfl)
 refine Za Tryz.func49 rfl rfl Tryz.ntmps49 rfl (by kernel_rfl) rfl rfl ?_
 refine use (Zqu l m hn hm) rfl ?_
 exact rfl
def q3d (q:Rat):List D:= [.v (.bool (decide (q.num< 0))),.list (W (w32 q.num.natAbs)),.list (W (w32 q.den))]
def QL (l:List Rat):List (List D):=l.map q3d
theorem Zqr {l:List Rat} {i:Nat} {q:Rat} (h:l[i]? =some q):(QL l)[i]? =some (q3d q):=by simp [QL,h]
theorem ZtO (l:List Rat):(QL l).length=l.length:=by simp [QL]
theorem ZoH (l:List Rat):∀ row,row∈QL l→row.length=3:=by
 intro row hr
 obtain⟨q,_,rfl⟩:=List.mem_map.1 hr
 rfl
def midQ (p o:Int) (a b:Rat):Rat:=a+(p:Rat) / (o:Rat)*(b - a)
def midL (l m:List RV) (p o:Int):List Rat:=List.zipWith (fun x y=>midQ p o x.q y.q) l m
def vr (l:List RV):List (List D):=l.map rd
theorem ZlC {l:List RV} {i:Nat} {x:RV} (h:l[i]? =some x):(vr l)[i]? =some (rd x):=by simp [vr,h]
theorem Zdp (l:List RV):(vr l).length=l.length:=by simp [vr]
theorem Zam (l m:List RV) (p o:Int):(midL l m p o).length=min l.length m.length:=by simp [midL]
theorem Zif {l m:List RV} {p o:Int} {i:Nat} {x y:RV} (h1:l[i]? =some x) (h2:m[i]? =some y):(midL l m p o)[i]? =some (midQ p o x.q y.q):=by simp [midL,List.getElem?_zipWith,h1,h2]
theorem ZrH (p o:Int) (hp1:-9223372036854775808≤p) (hp2:p≤9223372036854775807) (ho1:-9223372036854775808≤o) (ho2:o≤9223372036854775807) (a b:Rat):qs (midQ p o a b)≤2*qs a+qs b+24:=by
 have h1:=ZaI hp1 hp2
 have h2:=ZaI ho1 ho2
 have h3:=Zb8 (p:Rat) (o:Rat)
 have h4:=Zaf b a
 have h5:=ZS ((p:Rat) / (o:Rat)) (b - a)
 have h6:=ZI a ((p:Rat) / (o:Rat)*(b - a))
 unfold midQ;omega
theorem Zdb {l m:List RV} {p o:Int} {Z:Nat} (hp1:-9223372036854775808≤p) (hp2:p≤9223372036854775807) (ho1:-9223372036854775808≤o) (ho2:o≤9223372036854775807) (hl:∀ x,x∈l→x.z≤Z) (hm:∀ x,x∈m→x.z≤Z):∀ q,q∈midL l m p o→qs q≤3*Z+27:=by
 intro q hq
 obtain⟨i,hi,rfl⟩:=List.getElem_of_mem hq
 rw [Zam] at hi
 have e:=Zif (p:=p) (o:=o) (List.getElem?_eq_getElem (show i< l.length by omega)) (List.getElem?_eq_getElem (show i< m.length by omega))
 have e2:(midL l m p o)[i]? =some (midL l m p o)[i]:=List.getElem?_eq_getElem (by rw [Zam];exact hi)
 rw [e] at e2
 rw [← Option.some.inj e2]
 have h1:=ZrH p o hp1 hp2 ho1 ho2 (l[i]'(by omega)).q (m[i]'(by omega)).q
 have h2:=hl _ (List.getElem_mem (by omega:i< l.length))
 have h3:=hm _ (List.getElem_mem (by omega:i< m.length))
 have h4:=(l[i]'(by omega)).z1
 have h5:=(m[i]'(by omega)).z1
 omega
theorem Zqw (l m:List RV) (p o:Int) (hp1:-9223372036854775808≤p) (hp2:p≤9223372036854775807) (ho1:-9223372036854775808≤o) (ho2:o≤9223372036854775807) (hl:∀ x,x∈l→x.z≤16777216) (hm:∀ x,x∈m→x.z≤16777216) (hn:l.length≤1073741824) (hn':m.length≤1073741824):
  Spec Tryz.prog Tab 268 [.val (.one (.d (.list (vr l)))),.val (.one (.d (.list (vr m)))),int p,int o] (rats (midL l m p o)):=by
 have hll:=Zdp l
 have hml:=Zdp m
 have hlen:=Zam l m p o
 refine Za Tryz.func268 rfl rfl Tryz.ntmps268 rfl (by kernel_rfl) rfl rfl ?_
 refine use (ZkB p o hp1 hp2 ho1 ho2) rfl ?_
 obtain⟨r,hr⟩:∃ r,r=quotR (p:Rat) (o:Rat):=⟨_,rfl⟩
 have hrq:r.q=(p:Rat) / (o:Rat):=by
  rw [hr];unfold quotR;split
  ·rename_i h;rw [h,z0_q,Rat.div_def,Rat.inv_zero,Rat.mul_zero]
  ·rw [cn_q]
 have hrz:r.z≤17:=by
  rw [hr];unfold quotR;split
  ·rw [z0_z];omega
  ·have:=Zb8 (p:Rat) (o:Rat);have:=ZaI hp1 hp2;have:=ZaI ho1 ho2;rw [cn_z];omega
 rw [← hr]
 clear hr
 have hmn:(if (((vr m).length:Nat):Int)< (((vr l).length:Nat):Int) then (((vr m).length:Nat):Int) else (((vr l).length:Nat):Int))=(((midL l m p o).length:Nat):Int):=by
  rw [hll,hml,hlen];split<;>omega
 refine⟨Nat,fun i=> [(0,.val (.one (.d (.list (vr l))))),(1,.val (.one (.d (.list (vr m))))),(9,.val (.one (.ptr 9 0))),(11,.val (.one (.row 45 0))),(23,int (((midL l m p o).length:Nat):Int)),(24,int (i:Int))],
  fun i=> [(9,.var 23 (rc r)),(45,.row 23 3 0 (RL ((midL l m p o).take i)) true)],fun i=>i≤(midL l m p o).length,fun i=>(midL l m p o).length - i,0,?_,Nat.zero_le _,fun i hi=> ?_⟩
 ·constructor<;>(repeat' (first|exact rfl|exact True.intro|exact⟨_,_,rfl⟩|exact(by decide:0< 3)|apply And.intro))
  all_goals exact congrArg (fun n:Int=>D.v (.int .i64 n)) hmn.symm
 refine⟨fun e=> ?_,fun e=> ?_⟩
 ·have hlt:i< (midL l m p o).length:=by have:=of_decide_eq_true e;omega
  obtain⟨x,hx⟩:∃ a,l[i]? =some a:=⟨_,List.getElem?_eq_getElem (by omega)⟩
  obtain⟨y,hy⟩:∃ a,m[i]? =some a:=⟨_,List.getElem?_eq_getElem (by omega)⟩
  have hxz:=hl x (List.mem_of_getElem? hx)
  have hyz:=hm y (List.mem_of_getElem? hy)
  have hlt2:(RL ((midL l m p o).take i)).length≤1099511627776:=by simp [RL];omega
  have hat:=Zif (p:=p) (o:=o) hx hy
  refine k_at (rd x) (Int.natCast_nonneg _) (by rw [Int.toNat_natCast];exact ZlC hx) rfl ?_
  refine k_at (rd y) (Int.natCast_nonneg _) (by rw [Int.toNat_natCast];exact ZlC hy) rfl ?_
  refine k_at (rd x) (Int.natCast_nonneg _) (by rw [Int.toNat_natCast];exact ZlC hx) rfl ?_
  refine Zhb (x:=y) (y:=x) (by omega) (by omega) fun q1 h1 z1=> ?_
  refine ZcQ (x:=r) (by omega) (by omega) fun q2 h2 z2=> ?_
  refine Zel (x:=x) (by omega) (by omega) fun q3 h3 z3=> ?_
  have hq:RL ((midL l m p o).take (i+1))=RL ((midL l m p o).take i)++ [rd (cn q3)]:=by
   rw [List.take_add_one,hat]
   simp only [cn_q] at h1 h2 h3
   rw [h3,h2,h1,hrq]
   simp [RL,midQ]
  refine⟨⟨Zjh [q3],?_,?_⟩,?_⟩
  ·show ((RL ((midL l m p o).take i)).length+1)*40≤_;omega
  ·show (RL ((midL l m p o).take i)).length+1≤_;omega
  refine⟨by kernel_rfl,?_⟩
  refine⟨i+1,hlt,by simp only;omega,?_⟩
  constructor<;>(repeat' (first|exact rfl|exact True.intro|apply And.intro))
  all_goals first
   |exact congrArg (fun n:Int=>D.v (.int .i64 n)) (show ((i+1:Nat):Int)=IntKind.i64.wrap ((i:Int)+1) by rw [wrap64 _ (by omega) (by omega)];omega)
   |(rw [hq];exact rfl)
 ·have hge:i=(midL l m p o).length:=by have:=of_decide_eq_false e;omega
  subst hge
  refine Eq.trans (b:= .val (.one (.d (.list (RL ((midL l m p o).take (midL l m p o).length)))))) ?_ rfl
  rw [List.take_length];rfl
end
end Go.Proofs.YtpfemjpgbpnpkaaGreatDoor.eng
