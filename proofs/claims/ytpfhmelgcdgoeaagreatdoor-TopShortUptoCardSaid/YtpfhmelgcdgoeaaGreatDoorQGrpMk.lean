/- Joined by wip/bundle.py: XMk0 XMkA XMkB XMkC XQtr. -/
import Derived.Test.YtpfhmelgcdgoeaaGreatDoorQGrpTa
set_option maxHeartbeats 4000000
set_option maxRecDepth 100000
open List (map range map_append length_map)
namespace Go.Proofs.YtpfhmelgcdgoeaaGreatDoor.eng
open Go.RowKit num mem seg q held ratA ratB ratC ratD ratE vars ratF prf natC natD natI sub32
def byD (n:Nat):List D:= [D.v (.int .u8 (n:Int))]
def blN (n:Nat):List Nat:=if n=0 then [] else [n]
theorem ZpR (n:Nat):(blN n).length≤1:=by unfold blN;split<;>simp
theorem ZeH {n:Nat} (h:n< 256):bytesD (enc n)=map byD (blN n):=by
 unfold blN
 by_cases h0:n=0
 ·subst h0;rw [if_pos rfl,ZO];rfl
 ·rw [if_neg h0,← ZmZ n ω h]
  simp [bytesD,strOfNums,byD]
  omega
theorem ZsQ {n i x:Nat} (h:(blN n)[i]? =some x):i=0∧x=n∧0< n:=by
 unfold blN at h
 by_cases h0:n=0
 ·rw [if_pos h0] at h;simp at h
 ·rw [if_neg h0] at h
  rcases i with _|i
  ·exact⟨rfl,(Option.some.inj h).symm,ω⟩
  ·simp at h
def fvN (n i:Nat):Int:=if i=0 then 0 else (n:Int)
theorem Zi0 (n:Nat):fvN n (blN n).length=(n:Int):=by
 unfold fvN blN
 by_cases h0:n=0
 ·subst h0;rfl
 ·rw [if_neg h0];rfl
def sv (l:List Int) (p:Nat) (n:Int):Int:=nextV (l.drop p) n
theorem Zu (l:List Int) (p:Nat) {n:Int} (h:1≤n):0≤sv l p n∧sv l p n< n:=ZcG h
theorem ZlI (l:List Int) (p:Nat) {n:Int} (h:1≤n):nextL (l.drop p) n=l.drop (p+1):=by
 have e:l.drop (p+1)=(l.drop p).drop 1:=by rw [List.drop_drop]
 rw [e]
 cases l.drop p with
 |nil=>rfl
 |cons x r=>rw [show nextL (x :: r) n=r from if_neg ω];rfl
theorem ZM (l:List Int) (p:Nat) (n:Int) (hl:∀ x,x∈l→-9223372036854775808≤x∧x≤9223372036854775807) (hn:1≤n∧n≤1073741824):SpecV Tryz.prog Tab 6 [.val (.one (.ptr 1000 0)),int n] 38 [D.list (map stD (l.drop p))] (int (sv l p n)) [D.list (map stD (l.drop (p+1)))]:=by
 rw [← ZlI l p hn.1]
 exact ZhV (l.drop p) n (fun x h=>hl x (List.mem_of_mem_drop h)) hn
theorem Zdq {K:AV→Prop} {x y:Int} (n:Int) (d:Nat) (hx:x=n) (hy:y=(d:Int)) (hn:-256< n∧n< 256) (hd:1≤d∧d< 256) (k:K (rat (cn ((n:Rat) / (d:Rat))))):Ask 39 [int x,int y] K:=by
 rw [hx,hy];exact use (Zgy n d hn hd) rfl k
theorem ZsD {K:AV→Prop} {x y:Int} {v:Rat} (n:Int) (d:Nat) (hx:x=n) (hy:y=(d:Int)) (hn:-256< n∧n< 256) (hd:1≤d∧d< 256) (hv:(n:Rat) / (d:Rat)=v) (k:K (rat (cn v))):Ask 39 [int x,int y] K:=by
 rw [← hv] at k;exact Zdq n d hx hy hn hd k
def rctI (x y u v:Int):List (Int×Int):= [(x,y),(u,y),(u,v),(x,v)]
def qtL (P:List (Int×Int)):List (RV×RV):=P.map fun p=>(cn (qtr p.1),cn (qtr p.2))
def lgM (l:List Int) (p:Nat):Int:=4+2*sv l p 4
def shM (l:List Int) (p:Nat):List (Int×Int):=if sv l (p+5) 3=2 then [(-1,-1),(lgM l p+1,0),(-1,1)] else rctI (-1) (-1) (lgM l p+1) 1
def thr (n:Int):Rat:=(n:Rat) / ((3:Nat):Rat)
def ivr (d:Int):Rat:=((1:Int):Rat) / ((d.toNat:Nat):Rat)
def lkM (l:List Int) (j:Nat):LinkV:=
 ⟨cn (qtr (lgM l (3+6*j))),cn (thr (-1 - sv l (3+6*j+1) 6)),cn (thr (1+sv l (3+6*j+2) 6)),cn (ivr (4+sv l (3+6*j+3) 8)),cn (ivr (10+sv l (3+6*j+4) 20)),qtL (shM l (3+6*j))⟩
def lksM (l:List Int) (n:Nat):List LinkV:=(range n).map (lkM l)
theorem ZcH (l:List Int) (n:Nat):lksM l (n+1)=lksM l n++ [lkM l n]:=by unfold lksM;rw [List.range_succ,map_append];rfl
theorem Zbr (l:List Int) (n:Nat):(lksM l n).length=n:=by simp [lksM]
def cntM (l:List Int):Nat:=(1+sv l 2 3).toNat
theorem ZeG (l:List Int):1≤cntM l∧cntM l≤3:=by have:=Zu l 2 (n:=3) ωd;unfold cntM;omega
def tnM (k:Int):Int:=(([0,1,-1,1]:List Int)[k.toNat]?).getD 0
theorem ZrW (k:Int):-1≤tnM k∧tnM k≤1:=by
 unfold tnM
 have:k.toNat=0∨k.toNat=1∨k.toNat=2∨k.toNat=3∨4≤k.toNat:=ω
 rcases this with h|h|h|h|h
 ·rw [h];decide
 ·rw [h];decide
 ·rw [h];decide
 ·rw [h];decide
 ·rw [List.getElem?_eq_none (by simpa using h)];decide
theorem ZuX {k:Int} (h:0≤k∧k< 4):([stD 0,stD 1,stD (-1),stD 1]:List (List D))[k.toNat]? =some (stD (tnM k)):=by
 have:k=0∨k=1∨k=2∨k=3:=ω
 rcases this with rfl|rfl|rfl|rfl<;>rfl
def tqM (l:List Int):Rat:=(tnM (sv l 0 4):Rat) / (((1+sv l 1 3).toNat:Nat):Rat)
def nmM:ByteArray:=ByteArray.mk #[111,110,101]
def armM (l:List Int):ArmV:=⟨nmM,cn (qtr 0),cn (qtr 0),false,cn (tqM l),lksM l (cntM l)⟩
def amS (l:List Int) (j:Nat):List C:= [.d (.v (.string nmM)),Xb (cn (qtr 0)),Xs (cn (qtr 0)),Xt (cn (qtr 0)),Xb (cn (qtr 0)),Xs (cn (qtr 0)),Xt (cn (qtr 0)),.d (.v (.bool false)),Xb (cn (tqM l)),Xs (cn (tqM l)),Xt (cn (tqM l)),
 match j with
 |0=> .d (.v (.slice none 0 0))
 |_+1=> .row 73 0]
def amO (l:List Int) (j:Nat):List (Nat×Ob):=match j with
 |0=> []
 |j+1=> [(73,.row 64 16 0 (map lk (lksM l (j+1))) true)]
theorem ZiM {l:List Int} {n j:Nat} {x:LinkV} (h:(lksM l n)[j]? =some x):x=lkM l j∧j< n:=by
 unfold lksM at h
 have hj:j< n:=by have:=(List.getElem?_eq_some_iff.1 h).1;simpa using this
 rw [List.getElem?_map,List.getElem?_range hj] at h
 exact⟨(Option.some.inj h).symm,hj⟩
def loT (l:List Int) (j:Nat):Rat:=thr (-1 - sv l (3+6*j+1) 6)
def hiT (l:List Int) (j:Nat):Rat:=thr (1+sv l (3+6*j+2) 6)
theorem Zh7 {s:Int} (h:0≤s∧s< 6):((thr (-1 - s)).num=-1∧(thr (-1 - s)).den=3)∨((thr (-1 - s)).num=-2∧(thr (-1 - s)).den=3)∨((thr (-1 - s)).num=-1∧(thr (-1 - s)).den=1)∨((thr (-1 - s)).num=-4∧(thr (-1 - s)).den=3)∨((thr (-1 - s)).num=-5∧(thr (-1 - s)).den=3)∨((thr (-1 - s)).num=-2∧(thr (-1 - s)).den=1):=by
 have:s=0∨s=1∨s=2∨s=3∨s=4∨s=5:=ω
 rcases this with rfl|rfl|rfl|rfl|rfl|rfl<;>decide+kernel
theorem Zh6 {s:Int} (h:0≤s∧s< 6):((thr (1+s)).num=1∧(thr (1+s)).den=3)∨((thr (1+s)).num=2∧(thr (1+s)).den=3)∨((thr (1+s)).num=1∧(thr (1+s)).den=1)∨((thr (1+s)).num=4∧(thr (1+s)).den=3)∨((thr (1+s)).num=5∧(thr (1+s)).den=3)∨((thr (1+s)).num=2∧(thr (1+s)).den=1):=by
 have:s=0∨s=1∨s=2∨s=3∨s=4∨s=5:=ω
 rcases this with rfl|rfl|rfl|rfl|rfl|rfl<;>decide+kernel
def cfN (n m:Int) (d e:Nat) (k:Int):Int:=8*n*e+(m*d - n*e)*k
def cfV (l m:List Int) (j:Nat):Rat:=((cfN (loT l j).num (hiT l j).num (loT l j).den (hiT l j).den (sv m j 9):Int):Rat) / ((8*(loT l j).den*(hiT l j).den:Nat):Rat)
def cfF (l m:List Int) (n:Nat):List Rat:=(range n).map (cfV l m)
theorem Zrv (l m:List Int) (n:Nat):cfF l m (n+1)=cfF l m n++ [cfV l m n]:=by unfold cfF;rw [List.range_succ,map_append];rfl
theorem Zjc (l m:List Int) (n:Nat):(cfF l m n).length=n:=by simp [cfF]
theorem Zus {a c g b f:Int} (h1:-1000≤8*a∧8*a≤1000) (h2:-1000≤8*a*f∧8*a*f≤1000) (h3:-1000≤c*b∧c*b≤1000) (h4:-1000≤a*f∧a*f≤1000) (h5:-1000≤c*b - a*f∧c*b - a*f≤1000) (h6:-1000≤(c*b - a*f)*g∧(c*b - a*f)*g≤1000) (h7:-1000≤8*a*f+(c*b - a*f)*g∧8*a*f+(c*b - a*f)*g≤1000):
  IntKind.i64.wrap (IntKind.i64.wrap (IntKind.i64.wrap (8*a)*f)+IntKind.i64.wrap (IntKind.i64.wrap (IntKind.i64.wrap (c*b) - IntKind.i64.wrap (a*f))*g))=8*a*f+(c*b - a*f)*g:=by
 rw [wrap64 (8*a) ω ω,wrap64 (8*a*f) ω ω,wrap64 (c*b) ω ω,wrap64 (a*f) ω ω,wrap64 (c*b - a*f) ω ω,wrap64 ((c*b - a*f)*g) ω ω,wrap64 _ ω ω]
theorem ZpK (l m:List Int) (j:Nat):let n:=(loT l j).num;let d:=((loT l j).den:Int);let p:=(hiT l j).num;let e:=((hiT l j).den:Int);let k:=sv m j 9
  (IntKind.i64.wrap (IntKind.i64.wrap (IntKind.i64.wrap (8*n)*e)+IntKind.i64.wrap (IntKind.i64.wrap (IntKind.i64.wrap (p*d) - IntKind.i64.wrap (n*e))*k))=cfN n p (loT l j).den (hiT l j).den k∧-256< cfN n p (loT l j).den (hiT l j).den k∧cfN n p (loT l j).den (hiT l j).den k< 256)∧
  IntKind.i64.wrap (IntKind.i64.wrap (8*d)*e)=((8*(loT l j).den*(hiT l j).den:Nat):Int)∧1≤8*(loT l j).den*(hiT l j).den∧8*(loT l j).den*(hiT l j).den< 256:=by
 intro n d p e k
 have hk:=Zu m j (n:=9) ωd
 have h1:=Zh7 (Zu l (3+6*j+1) (n:=6) ωd)
 have h2:=Zh6 (Zu l (3+6*j+2) (n:=6) ωd)
 have w:∀ x:Int,-9223372036854775808≤x→x≤9223372036854775807→IntKind.i64.wrap x=x:=fun x a b=>wrap64 x a b
 change ((loT l j).num=-1∧(loT l j).den=3)∨((loT l j).num=-2∧(loT l j).den=3)∨((loT l j).num=-1∧(loT l j).den=1)∨((loT l j).num=-4∧(loT l j).den=3)∨((loT l j).num=-5∧(loT l j).den=3)∨((loT l j).num=-2∧(loT l j).den=1) at h1
 change ((hiT l j).num=1∧(hiT l j).den=3)∨((hiT l j).num=2∧(hiT l j).den=3)∨((hiT l j).num=1∧(hiT l j).den=1)∨((hiT l j).num=4∧(hiT l j).den=3)∨((hiT l j).num=5∧(hiT l j).den=3)∨((hiT l j).num=2∧(hiT l j).den=1) at h2
 unfold cfN
 simp only [n,d,p,e,k]
 generalize (loT l j).num=a at*
 generalize (loT l j).den=b at*
 generalize (hiT l j).num=c at*
 generalize (hiT l j).den=f at*
 generalize sv m j 9=g at*
 rcases h1 with ⟨rfl,rfl⟩|⟨rfl,rfl⟩|⟨rfl,rfl⟩|⟨rfl,rfl⟩|⟨rfl,rfl⟩|⟨rfl,rfl⟩<;>rcases h2 with ⟨rfl,rfl⟩|⟨rfl,rfl⟩|⟨rfl,rfl⟩|⟨rfl,rfl⟩|⟨rfl,rfl⟩|⟨rfl,rfl⟩<;>
  (refine⟨⟨?_,ω,ω⟩,ωd,ωd,ωd⟩
   refine Zus ω ω ω ω ω ω ω)
open Go.RowKit num mem seg q held ratA ratB ratC ratD ratE vars ratF prf natC natD natI sub32
section
variable {K : AV → Prop}
theorem Zhz (q:Rat) (h1:q.num.natAbs< 256) (h2:q.den< 256):Spec Tryz.prog Tab 48 [rat (cn q)] (.tup [.one (.d (.v (.int .i64 (q.num)))),.one (.d (.v (.int .i64 ((q.den:Int)))))]):=by
 have hd0:=q.den_pos
 refine Za Tryz.func48 rfl rfl Tryz.ntmps48 rfl ωr rfl rfl ?_
 refine⟨_,⟨5,ωr,ωr,ωr,(congrArg (fun l=>AV.val (.one (.d (.list l)))) (ZeH h1)).symm⟩,?_⟩
 have hL12:(map byD (blN q.num.natAbs)).length=(blN q.num.natAbs).length:=length_map ..
 have hb12:=ZpR q.num.natAbs
 refine⟨Nat,fun i=> [(1,.val (.one (.ptr 1 0))),(4,int (fvN (q.num.natAbs) i)),(5,int 0),(12,Xl byD (blN q.num.natAbs)),(13,int ((map byD (blN q.num.natAbs)).length:Int)),(14,int (i:Int))],
  fun i=> [(1,.var 25 [Xb (cn q),Xs (cn q),Xt (cn q)])],fun i=>i≤(blN (q.num.natAbs)).length,fun i=>(blN (q.num.natAbs)).length - i,0,?_,Nat.zero_le _,fun i hs=> ?_⟩
 ·exact ωe
 refine⟨fun e1=> ?_,fun e1=> ?_⟩
 ·have f15:(i:Int)< ((map byD (blN q.num.natAbs)).length:Int):=of_decide_eq_true e1
  refine get_ex (l:=(blN q.num.natAbs)) (i:=i) ωm fun x16 hx16=> ?_
  obtain⟨b1,b2,b3⟩:=ZsQ hx16
  refine k_ix i [D.v (.int .u8 ((x16:Int)))] ωf (Zc hx16) rfl ?_
  refine ZoV (k':= .i64) ωr ωr (x16:Int) (by rw [wrap64 _ ω ω]) ?_
  have hval:IntKind.i64.wrap (IntKind.i64.wrap (256*(fvN (q.num.natAbs) i))+(x16:Int))=fvN (q.num.natAbs) (i+1):=by
   rw [b1,b2,show fvN (q.num.natAbs) 0=0 from rfl,show fvN (q.num.natAbs) (0+1)=((q.num.natAbs:Nat):Int) from rfl,wrap64 (256*0) ω ω,wrap64 _ ω ω];omega
  refine⟨i+1,ω,by simp only;omega,?_⟩
  constructor<;>(repeat' (first|exact rfl|exact True.intro|apply And.intro))
  all_goals first
   |exact congrArg (fun n:Int=>D.v (.int .i64 n)) hval
   |exact congrArg (fun n:Int=>D.v (.int .i64 n)) hval.symm
   |exact ωb
   |exact ωa
 ·have f15:¬ ((i:Int)< ((map byD (blN q.num.natAbs)).length:Int)):=of_decide_eq_false e1
  refine⟨_,⟨5,ωr,ωr,ωr,(congrArg (fun l=>AV.val (.one (.d (.list l)))) (ZeH h2)).symm⟩,?_⟩
  have hL26:(map byD (blN q.den)).length=(blN q.den).length:=length_map ..
  have hb26:=ZpR q.den
  have e4:fvN q.num.natAbs i=(q.num.natAbs:Int):=by
   rw [show i=(blN q.num.natAbs).length by omega];exact Zi0 _
  refine⟨Nat,fun j=> [(1,.val (.one (.ptr 1 0))),(4,int (q.num.natAbs:Int)),(5,int (fvN (q.den) j)),(26,Xl byD (blN q.den)),(27,int ((map byD (blN q.den)).length:Int)),(28,int (j:Int))],
   fun j=> [(1,.var 25 [Xb (cn q),Xs (cn q),Xt (cn q)])],fun j=>j≤(blN (q.den)).length,fun j=>(blN (q.den)).length - j,0,?_,Nat.zero_le _,fun j hs=> ?_⟩
  ·constructor<;>(repeat' (first|exact rfl|exact True.intro|exact⟨_,_,rfl⟩|exact ωd|apply And.intro))
   all_goals first
    |exact congrArg (fun n:Int=>D.v (.int .i64 n)) e4
    |exact congrArg (fun n:Int=>D.v (.int .i64 n)) e4.symm
    |(simp;done)
  refine⟨fun e2=> ?_,fun e2=> ?_⟩
  ·have f29:(j:Int)< ((map byD (blN q.den)).length:Int):=of_decide_eq_true e2
   refine get_ex (l:=(blN q.den)) (i:=j) ωm fun x30 hx30=> ?_
   obtain⟨b1,b2,b3⟩:=ZsQ hx30
   refine k_ix j [D.v (.int .u8 ((x30:Int)))] ωf (Zc hx30) rfl ?_
   refine ZoV (k':= .i64) ωr ωr (x30:Int) (by rw [wrap64 _ ω ω]) ?_
   have hval:IntKind.i64.wrap (IntKind.i64.wrap (256*(fvN (q.den) j))+(x30:Int))=fvN (q.den) (j+1):=by
    rw [b1,b2,show fvN (q.den) 0=0 from rfl,show fvN (q.den) (0+1)=((q.den:Nat):Int) from rfl,wrap64 (256*0) ω ω,wrap64 _ ω ω];omega
   refine⟨j+1,ω,by simp only;omega,?_⟩
   constructor<;>(repeat' (first|exact rfl|exact True.intro|apply And.intro))
   all_goals first
    |exact congrArg (fun n:Int=>D.v (.int .i64 n)) hval
    |exact congrArg (fun n:Int=>D.v (.int .i64 n)) hval.symm
    |exact ωb
    |exact ωa
  ·have f29:¬ ((j:Int)< ((map byD (blN q.den)).length:Int)):=of_decide_eq_false e2
   refine⟨fun e3=> ?_,fun e3=> ?_⟩
   ·have f39:(cn q).s=true:=e3
    refine Eq.trans (b:= .tup [.one (.d (.v (.int .i64 (IntKind.i64.wrap (0 - (q.num.natAbs:Int)))))),.one (.d (.v (.int .i64 (if 1 >fvN (q.den) j then 1 else fvN (q.den) j))))]) ?_ rfl
    have e5:fvN q.den j=(q.den:Int):=by
     rw [show j=(blN q.den).length by omega];exact Zi0 _
    rw [e5,if_neg ω]
    have hs:(cn q).s=decide (q.num< 0):=rfl
    rw [hs] at f39
    have:=of_decide_eq_true f39
    rw [wrap64 _ ω ω,show (0:Int) - (q.num.natAbs:Int)=q.num by omega]
   ·have f39:¬ ((cn q).s=true):=fun hh=>Bool.false_ne_true (e3.symm.trans hh)
    refine Eq.trans (b:= .tup [.one (.d (.v (.int .i64 ((q.num.natAbs:Int))))),.one (.d (.v (.int .i64 (if 1 >fvN (q.den) j then 1 else fvN (q.den) j))))]) ?_ rfl
    have e5:fvN q.den j=(q.den:Int):=by
     rw [show j=(blN q.den).length by omega];exact Zi0 _
    rw [e5,if_neg ω]
    have hs:(cn q).s=decide (q.num< 0):=rfl
    have hn:¬ q.num< 0:=fun h=>f39 (decide_eq_true h)
    rw [show (q.num.natAbs:Int)=q.num by omega]
theorem Zg9 (x y u v:Int) (hx:-256< x∧x< 256) (hy:-256< y∧y< 256) (hu:-256< u∧u< 256) (hv:-256< v∧v< 256):Spec Tryz.prog Tab 47 [int x,int y,int u,int v] (Xl rdv (qtL (rctI x y u v))):=by
 refine Za Tryz.func47 rfl rfl Tryz.ntmps47 rfl ωr rfl rfl ?_
 refine use (ZeJ x y hx hy) rfl ?_
 refine use (ZeJ u y hu hy) rfl ?_
 refine use (ZeJ u v hu hv) rfl ?_
 refine use (ZeJ x v hx hv) rfl ?_
 refine Eq.trans (b:= .val (.one (.d (.list ([[Yb (cn (qtr x)),Ys (cn (qtr x)),Yt (cn (qtr x)),Yb (cn (qtr y)),Ys (cn (qtr y)),Yt (cn (qtr y))], [Yb (cn (qtr u)),Ys (cn (qtr u)),Yt (cn (qtr u)),Yb (cn (qtr y)),Ys (cn (qtr y)),Yt (cn (qtr y))], [Yb (cn (qtr u)),Ys (cn (qtr u)),Yt (cn (qtr u)),Yb (cn (qtr v)),Ys (cn (qtr v)),Yt (cn (qtr v))], [Yb (cn (qtr x)),Ys (cn (qtr x)),Yt (cn (qtr x)),Yb (cn (qtr v)),Ys (cn (qtr v)),Yt (cn (qtr v))]]))))) ?_ rfl
 rfl
theorem ZwY (l:List Int) (hl:∀ x,x∈l→-9223372036854775808≤x∧x≤9223372036854775807):SpecV Tryz.prog Tab 19 [.val (.one (.ptr 1000 0)),int 0] 38 [D.list (map stD l)] (arm (armM l)) [D.list (map stD (l.drop (3+6*cntM l)))]:=by
 have hcm:=ZeG l
 have hcn:=Zu l 2 (n:=3) ωd
 have hcu:cntM l=(1+sv l 2 3).toNat:=rfl
 have hwc:IntKind.i64.wrap (1+(sv l 2 3))=(cntM l:Int):=by rw [wrap64 _ ω ω];omega
 refine fn_V 0 [800018,800022,800029,800034,800040,800044,800048,800052,800060] Tryz.func19 rfl rfl Tryz.ntmps19 rfl ωr rfl rfl rfl ?_
 refine k_ix 0 [D.v (.string (ByteArray.mk #[111,110,101]))] ωf rfl rfl ?_
 refine ZaR (0) (0) ωg ωg ω ω ?_
 have hs1:=Zu l 0 (n:=4) ωd
 refine⟨int (sv l 0 4), [D.list (map stD (l.drop (0+1)))],⟨⟨rfl,rfl⟩,ZM l 0 4 hl ωd⟩,?_⟩
 refine k_ix ((sv l 0 4).toNat) [D.v (.int .i64 (tnM (sv l 0 4)))] ωf (ZuX (Zu l 0 (n:=4) ωd)) rfl ?_
 have hs2:=Zu l 1 (n:=3) ωd
 refine⟨int (sv l 1 3), [D.list (map stD (l.drop (1+1)))],⟨⟨rfl,rfl⟩,ZM l 1 3 hl ωd⟩,?_⟩
 have htn:=ZrW (sv l 0 4)
 refine Zdq (tnM (sv l 0 4)) ((1+sv l 1 3).toNat) ωg ωg ω ω ?_
 refine⟨ωr,?_⟩
 have hs3:=Zu l 2 (n:=3) ωd
 refine⟨int (sv l 2 3), [D.list (map stD (l.drop (2+1)))],⟨⟨rfl,rfl⟩,ZM l 2 3 hl ωd⟩,?_⟩
 refine⟨Nat,fun j=> [(0,.val (.one (.ptr 1000 0))),(4,.val (.one (.ptr 4 0))),(5,.val (.one (.ptr 5 0))),(30,int (IntKind.i64.wrap (1+(sv l 2 3)))),(31,int (j:Int))],
  fun j=> [(4,.var 34 [.d (.v (.string ⟨#[]⟩)),Xb z0,Xs z0,Xt z0,Xb z0,Xs z0,Xt z0,.d (.v (.bool false)),Xb z0,Xs z0,Xt z0,.d (.v (.slice none 0 0))]),(5,.var 34 (amS l j)),(1000,.var 38 [.d (.list (map stD (l.drop (3+6*j))))])]++amO l j,fun j=>j≤cntM l,fun j=>cntM l - j,0,?_,Nat.zero_le _,fun j hs=> ?_⟩
 ·exact ωe
 rcases j with _|j
 ·refine⟨fun e4=> ?_,fun e4=> ?_⟩
  ·have f32:((0:Nat):Int)< IntKind.i64.wrap (1+(sv l 2 3)):=of_decide_eq_true e4
   have hs5:=Zu l (3+6*0) (n:=4) ωd
   refine⟨int (sv l (3+6*0) 4), [D.list (map stD (l.drop ((3+6*0)+1)))],⟨⟨rfl,rfl⟩,ZM l (3+6*0) 4 hl ωd⟩,?_⟩
   have hlw1:IntKind.i64.wrap (4+(IntKind.i64.wrap (2*(sv l (3+6*0) 4))))=lgM l (3+6*0):=by unfold lgM;rw [wrap64 (2*_) ω ω,wrap64 _ ω ω]
   have hlb:4≤lgM l (3+6*0)∧lgM l (3+6*0)≤10:=by unfold lgM;omega
   have hlw2:IntKind.i64.wrap ((IntKind.i64.wrap (4+(IntKind.i64.wrap (2*(sv l (3+6*0) 4)))))+1)=lgM l (3+6*0)+1:=by rw [hlw1,wrap64 _ ω ω]
   refine Zdq (lgM l (3+6*0)) (4) ωg ωg ω ω ?_
   have hs6:=Zu l (3+6*0+1) (n:=6) ωd
   refine⟨int (sv l (3+6*0+1) 6), [D.list (map stD (l.drop ((3+6*0+1)+1)))],⟨⟨rfl,rfl⟩,ZM l (3+6*0+1) 6 hl ωd⟩,?_⟩
   refine Zdq (-1 - sv l (3+6*0+1) 6) (3) ωg ωg ω ω ?_
   have hs7:=Zu l (3+6*0+2) (n:=6) ωd
   refine⟨int (sv l (3+6*0+2) 6), [D.list (map stD (l.drop ((3+6*0+2)+1)))],⟨⟨rfl,rfl⟩,ZM l (3+6*0+2) 6 hl ωd⟩,?_⟩
   refine Zdq (1+sv l (3+6*0+2) 6) (3) ωg ωg ω ω ?_
   have hs8:=Zu l (3+6*0+3) (n:=8) ωd
   refine⟨int (sv l (3+6*0+3) 8), [D.list (map stD (l.drop ((3+6*0+3)+1)))],⟨⟨rfl,rfl⟩,ZM l (3+6*0+3) 8 hl ωd⟩,?_⟩
   refine Zdq (1) ((4+sv l (3+6*0+3) 8).toNat) ωg ωg ω ω ?_
   have hs9:=Zu l (3+6*0+4) (n:=20) ωd
   refine⟨int (sv l (3+6*0+4) 20), [D.list (map stD (l.drop ((3+6*0+4)+1)))],⟨⟨rfl,rfl⟩,ZM l (3+6*0+4) 20 hl ωd⟩,?_⟩
   refine Zdq (1) ((10+sv l (3+6*0+4) 20).toNat) ωg ωg ω ω ?_
   have hrc:=Zg9 (-1) (-1) (lgM l (3+6*0)+1) 1 ωd ωd ω ωd
   rw [show int (lgM l (3+6*0)+1)=int (IntKind.i64.wrap ((IntKind.i64.wrap (4+(IntKind.i64.wrap (2*(sv l (3+6*0) 4)))))+1)) from by rw [hlw2]] at hrc
   refine use hrc rfl ?_
   have hs10:=Zu l (3+6*0+5) (n:=3) ωd
   refine⟨int (sv l (3+6*0+5) 3), [D.list (map stD (l.drop ((3+6*0+5)+1)))],⟨⟨rfl,rfl⟩,ZM l (3+6*0+5) 3 hl ωd⟩,?_⟩
   refine⟨fun e11=> ?_,fun e11=> ?_⟩
   ·have f61:sv l (3+6*0+5) 3=2:=ZB e11
    refine ZaR (-1) (-1) ωg ωg ω ω ?_
    refine ZaR (lgM l (3+6*0)+1) (0) ωg ωg ω ω ?_
    refine ZaR (-1) (1) ωg ωg ω ω ?_
    refine⟨⟨row1 rfl,(by show 1*224≤_;omega),(by show 1≤_;omega)⟩,?_⟩
    have hsh:shM l (3+6*0)= [(-1,-1),(lgM l (3+6*0)+1,0),(-1,1)]:=if_pos f61
    have hlk:lkM l 0=⟨cn (qtr (lgM l (3+6*0))),cn (thr (-1 - sv l (3+6*0+1) 6)),cn (thr (1+sv l (3+6*0+2) 6)),cn (ivr (4+sv l (3+6*0+3) 8)),cn (ivr (10+sv l (3+6*0+4) 20)),qtL ([(-1,-1),(lgM l (3+6*0)+1,0),(-1,1)])⟩:=by unfold lkM;rw [hsh]
    refine⟨0+1,ω,by simp only;omega,?_⟩
    constructor<;>(repeat' (first|exact rfl|exact True.intro|apply And.intro))
    all_goals first
     |(rw [ZcH,map_append,hlk];rfl)
     |exact ωb
     |exact ωa
   ·have f61:¬ (sv l (3+6*0+5) 3=2):=ZC e11
    refine⟨⟨row1 rfl,(by show 1*224≤_;omega),(by show 1≤_;omega)⟩,?_⟩
    have hsh:shM l (3+6*0)=rctI (-1) (-1) (lgM l (3+6*0)+1) 1:=if_neg f61
    have hlk:lkM l 0=⟨cn (qtr (lgM l (3+6*0))),cn (thr (-1 - sv l (3+6*0+1) 6)),cn (thr (1+sv l (3+6*0+2) 6)),cn (ivr (4+sv l (3+6*0+3) 8)),cn (ivr (10+sv l (3+6*0+4) 20)),qtL (rctI (-1) (-1) (lgM l (3+6*0)+1) 1)⟩:=by unfold lkM;rw [hsh]
    refine⟨0+1,ω,by simp only;omega,?_⟩
    constructor<;>(repeat' (first|exact rfl|exact True.intro|apply And.intro))
    all_goals first
     |(rw [ZcH,map_append,hlk];rfl)
     |exact ωb
     |exact ωa
  ·have f32:¬ (((0:Nat):Int)< IntKind.i64.wrap (1+(sv l 2 3))):=of_decide_eq_false e4
   exfalso
   omega
 ·have hlk2:(map lk (lksM l (j+1))).length=j+1:=by rw [length_map,Zbr]
  refine⟨fun e12=> ?_,fun e12=> ?_⟩
  ·have f32:((j+1:Nat):Int)< IntKind.i64.wrap (1+(sv l 2 3)):=of_decide_eq_true e12
   have hs13:=Zu l (3+6*(j+1)) (n:=4) ωd
   refine⟨int (sv l (3+6*(j+1)) 4), [D.list (map stD (l.drop ((3+6*(j+1))+1)))],⟨⟨rfl,rfl⟩,ZM l (3+6*(j+1)) 4 hl ωd⟩,?_⟩
   have hlw1:IntKind.i64.wrap (4+(IntKind.i64.wrap (2*(sv l (3+6*(j+1)) 4))))=lgM l (3+6*(j+1)):=by unfold lgM;rw [wrap64 (2*_) ω ω,wrap64 _ ω ω]
   have hlb:4≤lgM l (3+6*(j+1))∧lgM l (3+6*(j+1))≤10:=by unfold lgM;omega
   have hlw2:IntKind.i64.wrap ((IntKind.i64.wrap (4+(IntKind.i64.wrap (2*(sv l (3+6*(j+1)) 4)))))+1)=lgM l (3+6*(j+1))+1:=by rw [hlw1,wrap64 _ ω ω]
   refine Zdq (lgM l (3+6*(j+1))) (4) ωg ωg ω ω ?_
   have hs14:=Zu l (3+6*(j+1)+1) (n:=6) ωd
   refine⟨int (sv l (3+6*(j+1)+1) 6), [D.list (map stD (l.drop ((3+6*(j+1)+1)+1)))],⟨⟨rfl,rfl⟩,ZM l (3+6*(j+1)+1) 6 hl ωd⟩,?_⟩
   refine Zdq (-1 - sv l (3+6*(j+1)+1) 6) (3) ωg ωg ω ω ?_
   have hs15:=Zu l (3+6*(j+1)+2) (n:=6) ωd
   refine⟨int (sv l (3+6*(j+1)+2) 6), [D.list (map stD (l.drop ((3+6*(j+1)+2)+1)))],⟨⟨rfl,rfl⟩,ZM l (3+6*(j+1)+2) 6 hl ωd⟩,?_⟩
   refine Zdq (1+sv l (3+6*(j+1)+2) 6) (3) ωg ωg ω ω ?_
   have hs16:=Zu l (3+6*(j+1)+3) (n:=8) ωd
   refine⟨int (sv l (3+6*(j+1)+3) 8), [D.list (map stD (l.drop ((3+6*(j+1)+3)+1)))],⟨⟨rfl,rfl⟩,ZM l (3+6*(j+1)+3) 8 hl ωd⟩,?_⟩
   refine Zdq (1) ((4+sv l (3+6*(j+1)+3) 8).toNat) ωg ωg ω ω ?_
   have hs17:=Zu l (3+6*(j+1)+4) (n:=20) ωd
   refine⟨int (sv l (3+6*(j+1)+4) 20), [D.list (map stD (l.drop ((3+6*(j+1)+4)+1)))],⟨⟨rfl,rfl⟩,ZM l (3+6*(j+1)+4) 20 hl ωd⟩,?_⟩
   refine Zdq (1) ((10+sv l (3+6*(j+1)+4) 20).toNat) ωg ωg ω ω ?_
   have hrc:=Zg9 (-1) (-1) (lgM l (3+6*(j+1))+1) 1 ωd ωd ω ωd
   rw [show int (lgM l (3+6*(j+1))+1)=int (IntKind.i64.wrap ((IntKind.i64.wrap (4+(IntKind.i64.wrap (2*(sv l (3+6*(j+1)) 4)))))+1)) from by rw [hlw2]] at hrc
   refine use hrc rfl ?_
   have hs18:=Zu l (3+6*(j+1)+5) (n:=3) ωd
   refine⟨int (sv l (3+6*(j+1)+5) 3), [D.list (map stD (l.drop ((3+6*(j+1)+5)+1)))],⟨⟨rfl,rfl⟩,ZM l (3+6*(j+1)+5) 3 hl ωd⟩,?_⟩
   refine⟨fun e19=> ?_,fun e19=> ?_⟩
   ·have f61:sv l (3+6*(j+1)+5) 3=2:=ZB e19
    refine ZaR (-1) (-1) ωg ωg ω ω ?_
    refine ZaR (lgM l (3+6*(j+1))+1) (0) ωg ωg ω ω ?_
    refine ZaR (-1) (1) ωg ωg ω ω ?_
    refine⟨⟨row1 rfl,(by show ((map lk (lksM l (j+1))).length+1)*224≤_;omega),(by show ((map lk (lksM l (j+1))).length+1)≤_;omega)⟩,?_⟩
    have hsh:shM l (3+6*(j+1))= [(-1,-1),(lgM l (3+6*(j+1))+1,0),(-1,1)]:=if_pos f61
    have hlk:lkM l (j+1)=⟨cn (qtr (lgM l (3+6*(j+1)))),cn (thr (-1 - sv l (3+6*(j+1)+1) 6)),cn (thr (1+sv l (3+6*(j+1)+2) 6)),cn (ivr (4+sv l (3+6*(j+1)+3) 8)),cn (ivr (10+sv l (3+6*(j+1)+4) 20)),qtL ([(-1,-1),(lgM l (3+6*(j+1))+1,0),(-1,1)])⟩:=by unfold lkM;rw [hsh]
    refine⟨j+1+1,ω,by simp only;omega,?_⟩
    constructor<;>(repeat' (first|exact rfl|exact True.intro|apply And.intro))
    all_goals first
     |(rw [ZcH,map_append,hlk];rfl)
     |exact ωb
     |exact ωa
   ·have f61:¬ (sv l (3+6*(j+1)+5) 3=2):=ZC e19
    refine⟨⟨row1 rfl,(by show ((map lk (lksM l (j+1))).length+1)*224≤_;omega),(by show ((map lk (lksM l (j+1))).length+1)≤_;omega)⟩,?_⟩
    have hsh:shM l (3+6*(j+1))=rctI (-1) (-1) (lgM l (3+6*(j+1))+1) 1:=if_neg f61
    have hlk:lkM l (j+1)=⟨cn (qtr (lgM l (3+6*(j+1)))),cn (thr (-1 - sv l (3+6*(j+1)+1) 6)),cn (thr (1+sv l (3+6*(j+1)+2) 6)),cn (ivr (4+sv l (3+6*(j+1)+3) 8)),cn (ivr (10+sv l (3+6*(j+1)+4) 20)),qtL (rctI (-1) (-1) (lgM l (3+6*(j+1))+1) 1)⟩:=by unfold lkM;rw [hsh]
    refine⟨j+1+1,ω,by simp only;omega,?_⟩
    constructor<;>(repeat' (first|exact rfl|exact True.intro|apply And.intro))
    all_goals first
     |(rw [ZcH,map_append,hlk];rfl)
     |exact ωb
     |exact ωa
  ·have f32:¬ (((j+1:Nat):Int)< IntKind.i64.wrap (1+(sv l 2 3))):=of_decide_eq_false e12
   refine⟨Eq.trans (b:= .val (.agg [.d (.v (.string (ByteArray.mk #[111,110,101]))),Xb (cn (qtr (0))),Xs (cn (qtr (0))),Xt (cn (qtr (0))),Xb (cn (qtr (0))),Xs (cn (qtr (0))),Xt (cn (qtr (0))),.d (.v (.bool false)),Xb (cn (tqM l)),Xs (cn (tqM l)),Xt (cn (tqM l)),.d (.list (map lk (lksM l (j+1))))])) ?_ rfl,rfl,?_⟩
   ·rw [show j+1=cntM l by omega];try rfl
   ·rw [← (show j+1=cntM l by omega)];try rfl
end
open Go.RowKit num mem seg q held ratA ratB ratC ratD ratE vars ratF prf natC natD natI sub32
section
variable {K : AV → Prop}
theorem Zwh (l:List Int) (hl:∀ x,x∈l→-9223372036854775808≤x∧x≤9223372036854775807) (m:List Int) (hm:∀ x,x∈m→-9223372036854775808≤x∧x≤9223372036854775807):SpecV Tryz.prog Tab 21 [arm (armM l),.val (.one (.ptr 1000 0))] 38 [D.list (map stD m)] (Xl rdc (cfF l m (cntM l))) [D.list (map stD (m.drop (cntM l)))]:=by
 have hcm:=ZeG l
 have hLk:(map lk (armM l).links).length=cntM l:=by rw [length_map];exact Zbr l _
 refine fn_V 1 [800033] Tryz.func21 rfl rfl Tryz.ntmps21 rfl ωr rfl rfl rfl ?_
 refine⟨Nat,fun j=> [(1,.val (.one (.ptr 1000 0))),(5,.val (.one (.row 55 0))),(14,Xl lk ((armM l).links)),(15,int ((map lk ((armM l).links)).length:Int)),(16,int (j:Int))],
  fun j=> [(55,.row 25 3 0 (map rdc (cfF l m j)) true),(1000,.var 38 [.d (.list (map stD (m.drop j)))])],fun j=>j≤cntM l,fun j=>cntM l - j,0,?_,Nat.zero_le _,fun j hs=> ?_⟩
 ·exact ωe
 have hcl:(map rdc (cfF l m j)).length=j:=by rw [length_map,Zjc]
 refine⟨fun e1=> ?_,fun e1=> ?_⟩
 ·have f17:(j:Int)< ((map lk ((armM l).links)).length:Int):=of_decide_eq_true e1
  refine get_ex (l:=((armM l).links)) (i:=j) (by have:=Zbr l (cntM l);show j< (lksM l (cntM l)).length;omega) fun x18 hx18=> ?_
  have el18:x18.low=cn (loT l j):=by rw [(ZiM hx18).1];rfl
  have eh18:x18.high=cn (hiT l j):=by rw [(ZiM hx18).1];rfl
  refine k_ix j [Yb x18.len,Ys x18.len,Yt x18.len,Yb x18.low,Ys x18.low,Yt x18.low,Yb x18.high,Ys x18.high,Yt x18.high,Yb x18.speed,Ys x18.speed,Yt x18.speed,Yb x18.brake,Ys x18.brake,Yt x18.brake,D.list (map rdv x18.shape)] ωf (Zc hx18) rfl ?_
  have hfr23:=Zhz (loT l j) (by have h:=Zh7 (Zu l (3+6*j+1) (n:=6) ωd);change ((loT l j).num=-1∧(loT l j).den=3)∨((loT l j).num=-2∧(loT l j).den=3)∨((loT l j).num=-1∧(loT l j).den=1)∨((loT l j).num=-4∧(loT l j).den=3)∨((loT l j).num=-5∧(loT l j).den=3)∨((loT l j).num=-2∧(loT l j).den=1) at h;omega) (by have h:=Zh7 (Zu l (3+6*j+1) (n:=6) ωd);change ((loT l j).num=-1∧(loT l j).den=3)∨((loT l j).num=-2∧(loT l j).den=3)∨((loT l j).num=-1∧(loT l j).den=1)∨((loT l j).num=-4∧(loT l j).den=3)∨((loT l j).num=-5∧(loT l j).den=3)∨((loT l j).num=-2∧(loT l j).den=1) at h;omega)
  rw [← el18] at hfr23
  refine use hfr23 rfl ?_
  have hfr29:=Zhz (hiT l j) (by have h:=Zh6 (Zu l (3+6*j+2) (n:=6) ωd);change ((hiT l j).num=1∧(hiT l j).den=3)∨((hiT l j).num=2∧(hiT l j).den=3)∨((hiT l j).num=1∧(hiT l j).den=1)∨((hiT l j).num=4∧(hiT l j).den=3)∨((hiT l j).num=5∧(hiT l j).den=3)∨((hiT l j).num=2∧(hiT l j).den=1) at h;omega) (by have h:=Zh6 (Zu l (3+6*j+2) (n:=6) ωd);change ((hiT l j).num=1∧(hiT l j).den=3)∨((hiT l j).num=2∧(hiT l j).den=3)∨((hiT l j).num=1∧(hiT l j).den=1)∨((hiT l j).num=4∧(hiT l j).den=3)∨((hiT l j).num=5∧(hiT l j).den=3)∨((hiT l j).num=2∧(hiT l j).den=1) at h;omega)
  rw [← eh18] at hfr29
  refine use hfr29 rfl ?_
  have hs9:=Zu m j (n:=9) ωd
  refine⟨int (sv m j 9), [D.list (map stD (m.drop (j+1)))],⟨⟨rfl,rfl⟩,ZM m j 9 hm ωd⟩,?_⟩
  have hci:=ZpK l m j
  refine ZsD (v:=cfV l m j) (cfN (loT l j).num (hiT l j).num (loT l j).den (hiT l j).den (sv m j 9)) (8*(loT l j).den*(hiT l j).den) hci.1.1 hci.2.1 hci.1.2 hci.2.2 rfl ?_
  refine⟨⟨row1 rfl,(by show ((map rdc (cfF l m j)).length+1)*40≤_;omega),(by show ((map rdc (cfF l m j)).length+1)≤_;omega)⟩,?_⟩
  refine⟨j+1,ω,by simp only;omega,?_⟩
  constructor<;>(repeat' (first|(set_option maxHeartbeats 20000 in exact rfl)|exact True.intro|apply And.intro))
  all_goals first
   |exact ωb
   |(rw [Zrv,map_append];rfl)
   |exact ωb
   |exact ωa
 ·have f17:¬ ((j:Int)< ((map lk ((armM l).links)).length:Int)):=of_decide_eq_false e1
  refine⟨Eq.trans (b:= (Xl rdc (cfF l m j))) ?_ rfl,rfl,?_⟩
  ·exact congrArg (fun n=>AV.val (.one (.d (.list (map rdc (cfF l m n)))))) (show cntM l=j by omega)
  ·exact congrArg (fun n=>Ob.var 38 [.d (.list (map stD (m.drop n)))]) (show j=cntM l by omega)
end
open Go.RowKit num mem seg q held ratA ratB ratC ratD ratE vars ratF prf natC natD natI sub32
section
variable {K : AV → Prop}
theorem ZrL (l:List Int) (hl:∀ x,x∈l→-9223372036854775808≤x∧x≤9223372036854775807):Spec Tryz.prog Tab 5 [Xl stD l] (arm (armM l)):=by
 refine ZcN [800006] Tryz.func5 rfl rfl Tryz.ntmps5 rfl ωr rfl rfl ?_
 refine⟨(arm (armM l)), [D.list (map stD (l.drop (3+6*cntM l)))],⟨⟨rfl,rfl⟩,ZwY l hl⟩,?_⟩
 refine Eq.trans (b:= (arm (armM l))) ?_ rfl
 rfl
theorem Zp6 (l:List Int) (hl:∀ x,x∈l→-9223372036854775808≤x∧x≤9223372036854775807) (m:List Int) (hm:∀ x,x∈m→-9223372036854775808≤x∧x≤9223372036854775807):Spec Tryz.prog Tab 7 [arm (armM l),Xl stD m] (Xl rdc (cfF l m (cntM l))):=by
 refine ZcN [800009] Tryz.func7 rfl rfl Tryz.ntmps7 rfl ωr rfl rfl ?_
 refine⟨(Xl rdc (cfF l m (cntM l))), [D.list (map stD (m.drop (cntM l)))],⟨⟨rfl,rfl⟩,Zwh l hl m hm⟩,?_⟩
 refine Eq.trans (b:= (Xl rdc (cfF l m (cntM l)))) ?_ rfl
 rfl
end
open Go.RowKit num mem seg q held ratA ratB ratC ratD ratE vars ratF trq
def oriI (a b c:Int×Int):Int:=(b.1 - a.1)*(c.2 - a.2) - (b.2 - a.2)*(c.1 - a.1)
theorem Zf3 (a b:Int):qtr a - qtr b=qtr (a - b):=by
 unfold qtr
 rw [Rat.intCast_sub,Rat.div_def,Rat.div_def,Rat.div_def];grind
theorem ZnE (a b:Int):qtr a*qtr b=((a*b:Int):Rat)*(((1:Int):Rat) / ((16:Int):Rat)):=by
 unfold qtr
 have h:(((4:Nat):Rat))⁻¹*(((4:Nat):Rat))⁻¹=((1:Int):Rat) / ((16:Int):Rat):=by decide+kernel
 rw [Rat.intCast_mul,Rat.div_def,Rat.div_def,← h];grind
theorem Ztu {a b c:Int×Int} (h:0< oriI a b c):0< poly.ori (qtr a.1,qtr a.2) (qtr b.1,qtr b.2) (qtr c.1,qtr c.2):=by
 have e:poly.ori (qtr a.1,qtr a.2) (qtr b.1,qtr b.2) (qtr c.1,qtr c.2)=((oriI a b c:Int):Rat)*(((1:Int):Rat) / ((16:Int):Rat)):=by
  unfold poly.ori oriI
  simp only
  rw [Zf3,Zf3,Zf3,Zf3,ZnE,ZnE,Rat.intCast_sub];grind
 rw [e]
 exact Rat.mul_pos (Rat.intCast_pos.2 h) ωk
def EdgesI (P:List (Int×Int)):Prop:=∀ i k,i< P.length→2≤k→k< P.length→0< oriI ((P[i]?).getD (0,0)) ((P[(i+1) % P.length]?).getD (0,0)) ((P[(i+k) % P.length]?).getD (0,0))
theorem Zec (l:List Int):3≤(polyI l).length∧(polyI l).length≤5:=by
 unfold polyI
 (repeat' split)<;>simp
theorem ZnS (l:List Int):(polyM l).length=(polyI l).length:=length_map ..
theorem ZiB (l:List Int):EdgesI (polyI l):=by
 have hw:=Zqa l
 have hh:=Zt4 l
 have hv:=ZsW l
 unfold polyI
 generalize wM l=w at*
 generalize hM l=h at*
 generalize vM l=v at*
 have cw:w=1∨w=2∨w=3∨w=4∨w=5∨w=6:=ω
 have ch:h=1∨h=2∨h=3∨h=4∨h=5∨h=6:=ω
 (repeat' split)
 all_goals
  intro i k hi h2 hk
  simp only [List.length_cons,List.length_nil] at hi hk ⊢
  have ci:i=0∨i=1∨i=2∨i=3∨i=4:=ω
  have ck:k=2∨k=3∨k=4:=ω
  rcases ci with rfl|rfl|rfl|rfl|rfl<;>rcases ck with rfl|rfl|rfl<;>first
   |(exfalso;omega)
   |(simp [oriI]
     rcases ch with rfl|rfl|rfl|rfl|rfl|rfl<;>omega)
theorem Zj4 (l:List Int):∀ p,p∈polyI l→(-8≤p.1∧p.1≤8)∧-8≤p.2∧p.2≤8:=by
 have hw:=Zqa l
 have hh:=Zt4 l
 have hv:=ZsW l
 unfold polyI
 generalize wM l=w at*
 generalize hM l=h at*
 generalize vM l=v at*
 intro p hp
 (repeat' split at hp)<;>simp only [List.mem_cons,List.not_mem_nil,or_false] at hp
 ·rcases hp with rfl|rfl|rfl|rfl<;>simp only<;>omega
 ·rcases hp with rfl|rfl|rfl<;>simp only<;>omega
 ·rcases hp with rfl|rfl|rfl|rfl|rfl<;>simp only<;>omega
 ·rcases hp with rfl|rfl|rfl|rfl<;>simp only<;>omega
