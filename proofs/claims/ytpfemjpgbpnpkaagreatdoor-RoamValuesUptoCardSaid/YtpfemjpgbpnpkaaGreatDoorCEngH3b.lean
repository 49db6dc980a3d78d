/- Contracts: slices.Equal of numbers, gantlaw3.equal, gantref3.Back, clear.Between, gantref3.Mid. -/
import Derived.Test.YtpfemjpgbpnpkaaGreatDoorCGrpO
namespace Go.Proofs.YtpfemjpgbpnpkaaGreatDoor.eng
open Go.RowKit num mem seg q held ratA ratB ratC ratD ratE vars ratF natC natD natI sub32
section
variable {K : AV → Prop} {x y : RV}
theorem Zi6 (l:List Rat):rats l= .val (.one (.d (.list (RL l)))):=rfl
theorem ZkM {α:Type} {l m:List α} {i:Nat} {a:α} (h:l.take i=m.take i) (h1:l[i]? =some a) (h2:m[i]? =some a):l.take (i+1)=m.take (i+1):=by
 rw [List.take_add_one,List.take_add_one,h,h1,h2]
set_option maxRecDepth 100000 in
theorem ZlY (l m:List Rat) (hn:l.length≤1099511627776) (hm:m.length≤1099511627776):Spec Tryz.prog Tab 152 [rats l,rats m] (bool (decide (l=m))):=by
 have:=hn
 have hl:(RL l).length=l.length:=Zmq l
 have hml:(RL m).length=m.length:=Zmq m
 have bad:l≠m→bool (decide (l=m))=bool false:=fun h=>by rw [decide_eq_false h]
 rw [Zi6,Zi6]
 refine Zb Tryz.func152 rfl rfl Tryz.ntmps152 rfl (by kernel_rfl) rfl rfl ?_
 refine⟨fun e=> ?_,fun e=> ?_⟩
 ·refine bad fun h=> ?_
  have e':((((RL l).length:Nat):Int) !=(((RL m).length:Nat):Int))=true:=e
  rw [h] at e';simp at e'
 have hlm:l.length=m.length:=by
  have e':((((RL l).length:Nat):Int) !=(((RL m).length:Nat):Int))=false:=e
  rw [hl,hml] at e';simp at e';omega
 refine⟨Nat,fun i=> [(0,.val (.one (.d (.list (RL l))))),(1,.val (.one (.d (.list (RL m))))),(12,int (((RL l).length:Nat):Int)),(13,int (i:Int))],fun _=> [],fun i=>i≤l.length∧l.take i=m.take i,fun i=>l.length - i,0,?_,⟨Nat.zero_le _,rfl⟩,fun i hi=> ?_⟩
 ·constructor<;>(repeat' (first|exact rfl|exact True.intro|apply And.intro))
 obtain⟨hi,htk⟩:=hi
 refine⟨fun e=> ?_,fun e=> ?_⟩
 ·have h1:=of_decide_eq_true e
  have hil:i< l.length:=by omega
  obtain⟨a,ha⟩:∃ a,l[i]? =some a:=⟨_,List.getElem?_eq_getElem hil⟩
  obtain⟨b,hb⟩:∃ b,m[i]? =some b:=⟨_,List.getElem?_eq_getElem (by omega)⟩
  refine k_at (rd (cn a)) (Int.natCast_nonneg _) (by rw [Int.toNat_natCast];exact Zoc ha) rfl ?_
  refine k_at (rd (cn b)) (Int.natCast_nonneg _) (by rw [Int.toNat_natCast];exact Zoc hb) rfl ?_
  by_cases hab:a=b
  ·subst hab
   refine Zde (x:=cn a) (y:=cn a) (fun _=> ?_) (fun h=>absurd rfl h)
   refine⟨by kernel_rfl,?_⟩
   refine⟨fun e=>by simp at e,fun _=> ?_⟩
   refine⟨i+1,⟨hil,ZkM htk ha hb⟩,by simp only;omega,?_⟩
   constructor<;>(repeat' (first|exact rfl|exact True.intro|apply And.intro))
   all_goals exact congrArg (fun n:Int=>D.v (.int .i64 n)) (show ((i+1:Nat):Int)=IntKind.i64.wrap ((i:Int)+1) by rw [wrap64 _ (by omega) (by omega)];omega)
  ·refine Zde (x:=cn a) (y:=cn b) (fun h=>absurd (Zn7.1 h) hab) (fun _=> ?_)
   refine⟨by kernel_rfl,?_⟩
   refine⟨fun _=> ?_,fun e=>by simp at e⟩
   refine bad fun h=>hab ?_
   rw [h,hb] at ha
   exact(Option.some.inj ha).symm
 ·have h1:=of_decide_eq_false e
  have hil:i=l.length:=by omega
  subst hil
  refine Eq.trans (b:=bool true) ?_ rfl
  rw [List.take_length,List.take_of_length_le (by omega)] at htk
  rw [decide_eq_true htk]
theorem ZlA (l m:List Rat) {u v:List (List D)} (hu:u=RL l) (hv:v=RL m) (hn:l.length≤1099511627776) (hm:m.length≤1099511627776) (k:∀ b,b=decide (l=m)→K (bool b)):Ask 49 [.val (.one (.d (.list u))),.val (.one (.d (.list v)))] K:=by
 subst hu hv
 refine use (r:=bool (decide (l=m))) ?_ rfl (k _ rfl)
 refine Zb Tryz.func49 rfl rfl Tryz.ntmps49 rfl (by kernel_rfl) rfl rfl ?_
 refine use (ZlY l m hn hm) rfl ?_
 exact rfl
def q3d (q:Rat):List D:= [.v (.bool (decide (q.num< 0))),.list (W (w32 q.num.natAbs)),.list (W (w32 q.den))]
end
end Go.Proofs.YtpfemjpgbpnpkaaGreatDoor.eng
