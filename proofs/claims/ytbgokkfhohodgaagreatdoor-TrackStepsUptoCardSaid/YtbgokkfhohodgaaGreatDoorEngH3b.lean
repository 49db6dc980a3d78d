/- Contracts: slices.Equal of numbers, gantlaw3.equal, gantref3.Back, clear.Between, gantref3.Mid. -/
import Derived.Test.YtbgokkfhohodgaaGreatDoorGrpO
set_option maxRecDepth 100000
namespace Go.Proofs.YtbgokkfhohodgaaGreatDoor.eng
open Go.RowKit num mem seg q held ratA ratB ratC ratD ratE vars ratF natC natD natI sub32
section
variable {K : AV → Prop} {x y : RV}
theorem Zh9 (l:List Rat):rats l= .val (.one (.d (.list (RL l)))):=rfl
theorem ZjH {α:Type} {l m:List α} {i:Nat} {a:α} (h:l.take i=m.take i) (h1:l[i]? =some a) (h2:m[i]? =some a):l.take (i+1)=m.take (i+1):=by
 rw [List.take_add_one,List.take_add_one,h,h1,h2]
theorem ZkP (l m:List Rat) (hn:l.length≤1099511627776) (hm:m.length≤1099511627776):Spec Tryz.prog Tab 61 [rats l,rats m] (bool (decide (l=m))):=by
 have:=hn
 have hl:(RL l).length=l.length:=Zk9 l
 have hml:(RL m).length=m.length:=Zk9 m
 have bad:l≠m→bool (decide (l=m))=bool false:=fun h=>by rw [decide_eq_false h]
 rw [Zh9,Zh9]
 refine Ze Tryz.func61 rfl rfl Tryz.ntmps61 rfl (by kernel_rfl) rfl rfl ?_
 refine⟨fun e=> ?_,fun e=> ?_⟩
 ·refine bad fun h=> ?_
  have e':((((RL l).length:Nat):Int) !=(((RL m).length:Nat):Int))=true:=e
  rw [h] at e';simp at e'
 have hlm:l.length=m.length:=by
  have e':((((RL l).length:Nat):Int) !=(((RL m).length:Nat):Int))=false:=e
  rw [hl,hml] at e';simp at e';omega
 refine⟨Nat,fun i=> [(0,.val (.one (.d (.list (RL l))))),(1,.val (.one (.d (.list (RL m))))),(12,int (((RL l).length:Nat):Int)),(13,int (i:Int))],fun _=> [],fun i=>i≤l.length∧l.take i=m.take i,fun i=>l.length - i,0,?_,⟨Nat.zero_le _,rfl⟩,fun i hi=> ?_⟩
 ·constructor<;>(repeat' (first|exact rfl|exact True.intro|apply And.intro))
 obtain⟨hi,htk⟩:=hi
 refine⟨fun e=> ?_,fun e=> ?_⟩
 ·have h1:=of_decide_eq_true e
  have hil:i< l.length:=by omega
  obtain⟨a,ha⟩:∃ a,l[i]? =some a:=⟨_,List.getElem?_eq_getElem hil⟩
  obtain⟨b,hb⟩:∃ b,m[i]? =some b:=⟨_,List.getElem?_eq_getElem (by omega)⟩
  refine k_at (rd (cn a)) (Int.natCast_nonneg _) (by rw [Int.toNat_natCast];exact ZmV ha) rfl ?_
  refine k_at (rd (cn b)) (Int.natCast_nonneg _) (by rw [Int.toNat_natCast];exact ZmV hb) rfl ?_
  by_cases hab:a=b
  ·subst hab
   refine ZcL (x:=cn a) (y:=cn a) (fun _=> ?_) (fun h=>absurd rfl h)
   refine⟨by kernel_rfl,?_⟩
   refine⟨fun e=>by simp at e,fun _=> ?_⟩
   refine⟨i+1,⟨hil,ZjH htk ha hb⟩,by simp only;omega,?_⟩
   constructor<;>(repeat' (first|exact rfl|exact True.intro|apply And.intro))
   all_goals exact congrArg (fun n:Int=>D.v (.int .i64 n)) (show ((i+1:Nat):Int)=IntKind.i64.wrap ((i:Int)+1) by rw [wrap64 _ (by omega) (by omega)];omega)
  ·refine ZcL (x:=cn a) (y:=cn b) (fun h=>absurd (ZmL.1 h) hab) (fun _=> ?_)
   refine⟨by kernel_rfl,?_⟩
   refine⟨fun _=> ?_,fun e=>by simp at e⟩
   refine bad fun h=>hab ?_
   rw [h,hb] at ha
   exact(Option.some.inj ha).symm
 ·have h1:=of_decide_eq_false e
  have hil:i=l.length:=by omega
  subst hil
  refine Eq.trans (b:=bool true) ?_ rfl
  rw [List.take_length,List.take_of_length_le (by omega)] at htk
  rw [decide_eq_true htk]
theorem Zku (l m:List Rat) {u v:List (List D)} (hu:u=RL l) (hv:v=RL m) (hn:l.length≤1099511627776) (hm:m.length≤1099511627776) (k:∀ b,b=decide (l=m)→K (bool b)):Ask 14 [.val (.one (.d (.list u))),.val (.one (.d (.list v)))] K:=by
 subst hu hv
 refine use (r:=bool (decide (l=m))) ?_ rfl (k _ rfl)
 refine Ze Tryz.func14 rfl rfl Tryz.ntmps14 rfl (by kernel_rfl) rfl rfl ?_
 refine use (ZkP l m hn hm) rfl ?_
 exact rfl
def q3d (q:Rat):List D:= [.v (.bool (decide (q.num< 0))),.list (W (w32 q.num.natAbs)),.list (W (w32 q.den))]
def QL (l:List Rat):List (List D):=l.map q3d
theorem Znh {l:List Rat} {i:Nat} {q:Rat} (h:l[i]? =some q):(QL l)[i]? =some (q3d q):=by simp [QL,h]
theorem ZmW (l:List Rat):(QL l).length=l.length:=by simp [QL]
theorem ZjA (l:List Rat) (hl:∀ q,q∈l→qs q≤8589934592) (hn:l.length≤1099511627776):Spec Tryz.prog Tab 15 [.val (.one (.d (.list (QL l))))] (rats l):=by
 have hlen:=ZmW l
 refine Ze Tryz.func15 rfl rfl Tryz.ntmps15 rfl (by kernel_rfl) rfl rfl ?_
 refine⟨Nat,fun i=> [(3,.val (.one (.row 16 0))),(6,.val (.one (.d (.list (QL l))))),(7,int (((QL l).length:Nat):Int)),(8,int (i:Int))],
  fun i=> [(16,.row 23 3 0 (RL (l.take i)) true)],fun i=>i≤l.length,fun i=>l.length - i,0,?_,Nat.zero_le _,fun i hi=> ?_⟩
 ·constructor<;>(repeat' (first|exact rfl|exact True.intro|exact⟨_,_,rfl⟩|exact(by decide:0< 3)|apply And.intro))
 refine⟨fun e=> ?_,fun e=> ?_⟩
 ·have hlt:i< l.length:=by have:=of_decide_eq_true e;omega
  obtain⟨a,ha⟩:∃ a,l[i]? =some a:=⟨_,List.getElem?_eq_getElem hlt⟩
  have hlt2:(RL (l.take i)).length≤1099511627776:=by simp [RL];omega
  have hq:RL (l.take (i+1))=RL (l.take i)++ [rd (cn a)]:=by rw [List.take_add_one,ha];simp [RL]
  refine k_at (q3d a) (Int.natCast_nonneg _) (by rw [Int.toNat_natCast];exact Znh ha) rfl ?_
  refine Zna (q:=a) (hl a (List.mem_of_getElem? ha)) ?_
  refine⟨⟨Zf9 [a],?_,?_⟩,?_⟩
  ·show ((RL (l.take i)).length+1)*40≤_;omega
  ·show (RL (l.take i)).length+1≤_;omega
  refine⟨i+1,hlt,by simp only;omega,?_⟩
  constructor<;>(repeat' (first|exact rfl|exact True.intro|apply And.intro))
  all_goals first
   |exact congrArg (fun n:Int=>D.v (.int .i64 n)) (show ((i+1:Nat):Int)=IntKind.i64.wrap ((i:Int)+1) by rw [wrap64 _ (by omega) (by omega)];omega)
   |(rw [hq];exact rfl)
 ·have hge:i=l.length:=by have:=of_decide_eq_false e;omega
  subst hge
  refine Eq.trans (b:= .val (.one (.d (.list (RL (l.take l.length)))))) ?_ rfl
  rw [List.take_length];rfl
theorem Zmy (l:List Rat) {u:List (List D)} (hu:u=QL l) (hl:∀ q,q∈l→qs q≤8589934592) (hn:l.length≤1099511627776) (k:K (.val (.one (.d (.list (RL l)))))):Ask 15 [.val (.one (.d (.list u)))] K:=by
 subst hu;exact use (ZjA l hl hn) rfl k
end
end Go.Proofs.YtbgokkfhohodgaaGreatDoor.eng
