/- Joined by wip/bundle.py: XMk0 XMkA XMkB XMkC XQtr. -/
import Derived.Test.YtgmkgfdjolchdaaGreatDoorQTopB
set_option maxHeartbeats 4000000
set_option maxRecDepth 100000
namespace Go.Proofs.YtgmkgfdjolchdaaGreatDoor.eng
open Go.RowKit num mem seg q held ratA ratB ratC ratD ratE vars ratF prf natC natD natI sub32
def byD (n:Nat):List D:= [D.v (.int .u8 (n:Int))]
def blN (n:Nat):List Nat:=if n=0 then [] else [n]
theorem Zpd (n:Nat):(blN n).length≤1:=by unfold blN;split<;>simp
theorem Zey {n:Nat} (h:n< 256):bytesD (enc n)=List.map byD (blN n):=by
 unfold blN
 by_cases h0:n=0
 ·subst h0;rw [if_pos rfl,ZM];rfl
 ·rw [if_neg h0,← Zmw n ω h]
  simp [bytesD,strOfNums,byD]
  omega
theorem Zr6 {n i x:Nat} (h:(blN n)[i]? =some x):i=0∧x=n∧0< n:=by
 unfold blN at h
 by_cases h0:n=0
 ·rw [if_pos h0] at h;simp at h
 ·rw [if_neg h0] at h
  rcases i with _|i
  ·exact⟨rfl,(Option.some.inj h).symm,ω⟩
  ·simp at h
def fvN (n i:Nat):Int:=if i=0 then 0 else (n:Int)
theorem ZiU (n:Nat):fvN n (blN n).length=(n:Int):=by
 unfold fvN blN
 by_cases h0:n=0
 ·subst h0;rfl
 ·rw [if_neg h0];rfl
def sv (l:List Int) (p:Nat) (n:Int):Int:=nextV (l.drop p) n
theorem ZN (l:List Int) (p:Nat) {n:Int} (h:1≤n):0≤sv l p n∧sv l p n< n:=Zqk h
theorem Zlo (l:List Int) (p:Nat) {n:Int} (h:1≤n):nextL (l.drop p) n=l.drop (p+1):=by
 have e:l.drop (p+1)=(l.drop p).drop 1:=by rw [List.drop_drop]
 rw [e]
 cases l.drop p with
 |nil=>rfl
 |cons x r=>rw [show nextL (x :: r) n=r from if_neg ω];rfl
theorem ZaH (l:List Int) (p:Nat) (n:Int) (hl:∀ x,x∈l→-9223372036854775808≤x∧x≤9223372036854775807) (hn:1≤n∧n≤1073741824):SpecV Tryz.prog Tab 56 [.val (.one (.ptr 1000 0)),int n] 78 [D.list (List.map stD (l.drop p))] (int (sv l p n)) [D.list (List.map stD (l.drop (p+1)))]:=by
 rw [← Zlo l p hn.1]
 exact ZvN (l.drop p) n (fun x h=>hl x (List.mem_of_mem_drop h)) hn
theorem Zdp {K:AV→Prop} {x y:Int} (n:Int) (d:Nat) (hx:x=n) (hy:y=(d:Int)) (hn:-256< n∧n< 256) (hd:1≤d∧d< 256) (k:K (rat (cn ((n:Rat) / (d:Rat))))):Ask 49 [int x,int y] K:=by
 rw [hx,hy];exact use (Zgj n d hn hd) rfl k
theorem ZrU {K:AV→Prop} {x y:Int} {v:Rat} (n:Int) (d:Nat) (hx:x=n) (hy:y=(d:Int)) (hn:-256< n∧n< 256) (hd:1≤d∧d< 256) (hv:(n:Rat) / (d:Rat)=v) (k:K (rat (cn v))):Ask 49 [int x,int y] K:=by
 rw [← hv] at k;exact Zdp n d hx hy hn hd k
def rctI (x y u v:Int):List (Int×Int):= [(x,y),(u,y),(u,v),(x,v)]
def qtL (P:List (Int×Int)):List (RV×RV):=P.map fun p=>(cn (qtr p.1),cn (qtr p.2))
def lgM (l:List Int) (p:Nat):Int:=4+2*sv l p 4
def shM (l:List Int) (p:Nat):List (Int×Int):=if sv l (p+5) 3=2 then [(-1,-1),(lgM l p+1,0),(-1,1)] else rctI (-1) (-1) (lgM l p+1) 1
def thr (n:Int):Rat:=(n:Rat) / ((3:Nat):Rat)
def ivr (d:Int):Rat:=((1:Int):Rat) / ((d.toNat:Nat):Rat)
def lkM (l:List Int) (j:Nat):LinkV:=
 ⟨cn (qtr (lgM l (3+6*j))),cn (thr (-1 - sv l (3+6*j+1) 6)),cn (thr (1+sv l (3+6*j+2) 6)),cn (ivr (4+sv l (3+6*j+3) 8)),cn (ivr (10+sv l (3+6*j+4) 20)),qtL (shM l (3+6*j))⟩
def lksM (l:List Int) (n:Nat):List LinkV:=(List.range n).map (lkM l)
theorem ZcF (l:List Int) (n:Nat):lksM l (n+1)=lksM l n++ [lkM l n]:=by unfold lksM;rw [List.range_succ,List.map_append];rfl
theorem ZaI (l:List Int) (n:Nat):(lksM l n).length=n:=by simp [lksM]
def cntM (l:List Int):Nat:=(1+sv l 2 3).toNat
theorem Zbu (l:List Int):1≤cntM l∧cntM l≤3:=by have:=ZN l 2 (n:=3) ωd;unfold cntM;omega
def tnM (k:Int):Int:=(([0,1,-1,1]:List Int)[k.toNat]?).getD 0
theorem Zrn (k:Int):-1≤tnM k∧tnM k≤1:=by
 unfold tnM
 have:k.toNat=0∨k.toNat=1∨k.toNat=2∨k.toNat=3∨4≤k.toNat:=ω
 rcases this with h|h|h|h|h
 ·rw [h];decide
 ·rw [h];decide
 ·rw [h];decide
 ·rw [h];decide
 ·rw [List.getElem?_eq_none (by simpa using h)];decide
theorem Zt6 {k:Int} (h:0≤k∧k< 4):([stD 0,stD 1,stD (-1),stD 1]:List (List D))[k.toNat]? =some (stD (tnM k)):=by
 have:k=0∨k=1∨k=2∨k=3:=ω
 rcases this with rfl|rfl|rfl|rfl<;>rfl
def tqM (l:List Int):Rat:=(tnM (sv l 0 4):Rat) / (((1+sv l 1 3).toNat:Nat):Rat)
def nmM:ByteArray:=ByteArray.mk #[111,110,101]
def armM (l:List Int):ArmV:=⟨nmM,cn (qtr 0),cn (qtr 0),false,cn (tqM l),lksM l (cntM l)⟩
def amS (l:List Int) (j:Nat):List C:= [.d (.v (.string nmM)),.d (.v (.bool (cn (qtr 0)).s)),.d (.v (.string (cn (qtr 0)).a)),.d (.v (.string (cn (qtr 0)).d)),.d (.v (.bool (cn (qtr 0)).s)),.d (.v (.string (cn (qtr 0)).a)),.d (.v (.string (cn (qtr 0)).d)),.d (.v (.bool false)),.d (.v (.bool (cn (tqM l)).s)),.d (.v (.string (cn (tqM l)).a)),.d (.v (.string (cn (tqM l)).d)),
 match j with
 |0=> .d (.v (.slice none 0 0))
 |_+1=> .row 73 0]
def amO (l:List Int) (j:Nat):List (Nat×Ob):=match j with
 |0=> []
 |j+1=> [(73,.row 71 16 0 (List.map lk (lksM l (j+1))) true)]
theorem ZiG {l:List Int} {n j:Nat} {x:LinkV} (h:(lksM l n)[j]? =some x):x=lkM l j∧j< n:=by
 unfold lksM at h
 have hj:j< n:=by have:=(List.getElem?_eq_some_iff.1 h).1;simpa using this
 rw [List.getElem?_map,List.getElem?_range hj] at h
 exact⟨(Option.some.inj h).symm,hj⟩
def loT (l:List Int) (j:Nat):Rat:=thr (-1 - sv l (3+6*j+1) 6)
def hiT (l:List Int) (j:Nat):Rat:=thr (1+sv l (3+6*j+2) 6)
theorem ZhX {s:Int} (h:0≤s∧s< 6):((thr (-1 - s)).num=-1∧(thr (-1 - s)).den=3)∨((thr (-1 - s)).num=-2∧(thr (-1 - s)).den=3)∨((thr (-1 - s)).num=-1∧(thr (-1 - s)).den=1)∨((thr (-1 - s)).num=-4∧(thr (-1 - s)).den=3)∨((thr (-1 - s)).num=-5∧(thr (-1 - s)).den=3)∨((thr (-1 - s)).num=-2∧(thr (-1 - s)).den=1):=by
 have:s=0∨s=1∨s=2∨s=3∨s=4∨s=5:=ω
 rcases this with rfl|rfl|rfl|rfl|rfl|rfl<;>decide+kernel
theorem ZhW {s:Int} (h:0≤s∧s< 6):((thr (1+s)).num=1∧(thr (1+s)).den=3)∨((thr (1+s)).num=2∧(thr (1+s)).den=3)∨((thr (1+s)).num=1∧(thr (1+s)).den=1)∨((thr (1+s)).num=4∧(thr (1+s)).den=3)∨((thr (1+s)).num=5∧(thr (1+s)).den=3)∨((thr (1+s)).num=2∧(thr (1+s)).den=1):=by
 have:s=0∨s=1∨s=2∨s=3∨s=4∨s=5:=ω
 rcases this with rfl|rfl|rfl|rfl|rfl|rfl<;>decide+kernel
def cfN (n m:Int) (d e:Nat) (k:Int):Int:=8*n*e+(m*d - n*e)*k
def cfV (l m:List Int) (j:Nat):Rat:=((cfN (loT l j).num (hiT l j).num (loT l j).den (hiT l j).den (sv m j 9):Int):Rat) / ((8*(loT l j).den*(hiT l j).den:Nat):Rat)
def cfF (l m:List Int) (n:Nat):List Rat:=(List.range n).map (cfV l m)
theorem Zq2 (l m:List Int) (n:Nat):cfF l m (n+1)=cfF l m n++ [cfV l m n]:=by unfold cfF;rw [List.range_succ,List.map_append];rfl
theorem Zo6 (l m:List Int) (n:Nat):(cfF l m n).length=n:=by simp [cfF]
theorem ZtE {a c g b f:Int} (h1:-1000≤8*a∧8*a≤1000) (h2:-1000≤8*a*f∧8*a*f≤1000) (h3:-1000≤c*b∧c*b≤1000) (h4:-1000≤a*f∧a*f≤1000) (h5:-1000≤c*b - a*f∧c*b - a*f≤1000) (h6:-1000≤(c*b - a*f)*g∧(c*b - a*f)*g≤1000) (h7:-1000≤8*a*f+(c*b - a*f)*g∧8*a*f+(c*b - a*f)*g≤1000):
  IntKind.i64.wrap (IntKind.i64.wrap (IntKind.i64.wrap (8*a)*f)+IntKind.i64.wrap (IntKind.i64.wrap (IntKind.i64.wrap (c*b) - IntKind.i64.wrap (a*f))*g))=8*a*f+(c*b - a*f)*g:=by
 rw [wrap64 (8*a) ω ω,wrap64 (8*a*f) ω ω,wrap64 (c*b) ω ω,wrap64 (a*f) ω ω,wrap64 (c*b - a*f) ω ω,wrap64 ((c*b - a*f)*g) ω ω,wrap64 _ ω ω]
theorem Zo3 (l m:List Int) (j:Nat):let n:=(loT l j).num;let d:=((loT l j).den:Int);let p:=(hiT l j).num;let e:=((hiT l j).den:Int);let k:=sv m j 9
  (IntKind.i64.wrap (IntKind.i64.wrap (IntKind.i64.wrap (8*n)*e)+IntKind.i64.wrap (IntKind.i64.wrap (IntKind.i64.wrap (p*d) - IntKind.i64.wrap (n*e))*k))=cfN n p (loT l j).den (hiT l j).den k∧-256< cfN n p (loT l j).den (hiT l j).den k∧cfN n p (loT l j).den (hiT l j).den k< 256)∧
  IntKind.i64.wrap (IntKind.i64.wrap (8*d)*e)=((8*(loT l j).den*(hiT l j).den:Nat):Int)∧1≤8*(loT l j).den*(hiT l j).den∧8*(loT l j).den*(hiT l j).den< 256:=by
 intro n d p e k
 have hk:=ZN m j (n:=9) ωd
 have h1:=ZhX (ZN l (3+6*j+1) (n:=6) ωd)
 have h2:=ZhW (ZN l (3+6*j+2) (n:=6) ωd)
 have w:∀ x:Int,-9223372036854775808≤x→x≤9223372036854775807→IntKind.i64.wrap x=x:=fun x a b=>wrap64 x a b
 change ((loT l j).num=-1∧(loT l j).den=3)∨((loT l j).num=-2∧(loT l j).den=3)∨((loT l j).num=-1∧(loT l j).den=1)∨((loT l j).num=-4∧(loT l j).den=3)∨((loT l j).num=-5∧(loT l j).den=3)∨((loT l j).num=-2∧(loT l j).den=1) at h1
 change ((hiT l j).num=1∧(hiT l j).den=3)∨((hiT l j).num=2∧(hiT l j).den=3)∨((hiT l j).num=1∧(hiT l j).den=1)∨((hiT l j).num=4∧(hiT l j).den=3)∨((hiT l j).num=5∧(hiT l j).den=3)∨((hiT l j).num=2∧(hiT l j).den=1) at h2
 unfold cfN
 simp only [n,d,p,e,k]
 generalize (loT l j).num=a at*
 generalize (loT l j).den=b at*
 generalize (hiT l j).num=c at*
 generalize (hiT l j).den=f at*
 generalize sv m j 9=g at*
 rcases h1 with ⟨rfl,rfl⟩|⟨rfl,rfl⟩|⟨rfl,rfl⟩|⟨rfl,rfl⟩|⟨rfl,rfl⟩|⟨rfl,rfl⟩<;>rcases h2 with ⟨rfl,rfl⟩|⟨rfl,rfl⟩|⟨rfl,rfl⟩|⟨rfl,rfl⟩|⟨rfl,rfl⟩|⟨rfl,rfl⟩<;>
  (refine⟨⟨?_,ω,ω⟩,ωd,ωd,ωd⟩
   refine ZtE ω ω ω ω ω ω ω)
open Go.RowKit num mem seg q held ratA ratB ratC ratD ratE vars ratF prf natC natD natI sub32
section
variable {K : AV → Prop}
theorem Zhr (q:Rat) (h1:q.num.natAbs< 256) (h2:q.den< 256):Spec Tryz.prog Tab 58 [rat (cn q)] (.tup [.one (.d (.v (.int .i64 (q.num)))),.one (.d (.v (.int .i64 ((q.den:Int)))))]):=by
 have hd0:=q.den_pos
 refine Za Tryz.func58 rfl rfl Tryz.ntmps58 rfl ωr rfl rfl ?_
 refine⟨_,⟨5,ωr,ωr,ωr,(congrArg (fun l=>AV.val (.one (.d (.list l)))) (Zey h1)).symm⟩,?_⟩
 have hL12:(List.map byD (blN q.num.natAbs)).length=(blN q.num.natAbs).length:=List.length_map ..
 have hb12:=Zpd q.num.natAbs
 refine⟨Nat,fun i=> [(1,.val (.one (.ptr 1 0))),(4,int (fvN (q.num.natAbs) i)),(5,int 0),(12,.val (.one (.d (.list (List.map byD (blN q.num.natAbs)))))),(13,int ((List.map byD (blN q.num.natAbs)).length:Int)),(14,int (i:Int))],
  fun i=> [(1,.var 25 [.d (.v (.bool (cn q).s)),.d (.v (.string (cn q).a)),.d (.v (.string (cn q).d))])],fun i=>i≤(blN (q.num.natAbs)).length,fun i=>(blN (q.num.natAbs)).length - i,0,?_,Nat.zero_le _,fun i hs=> ?_⟩
 ·exact ωe
 refine⟨fun e1=> ?_,fun e1=> ?_⟩
 ·have f15:(i:Int)< ((List.map byD (blN q.num.natAbs)).length:Int):=of_decide_eq_true e1
  refine get_ex (l:=(blN q.num.natAbs)) (i:=i) ωm fun x16 hx16=> ?_
  obtain⟨b1,b2,b3⟩:=Zr6 hx16
  refine k_ix i [D.v (.int .u8 ((x16:Int)))] ωf (Ze hx16) rfl ?_
  refine Zhn (k':= .i64) ωr ωr (x16:Int) (by rw [wrap64 _ ω ω]) ?_
  have hval:IntKind.i64.wrap (IntKind.i64.wrap (256*(fvN (q.num.natAbs) i))+(x16:Int))=fvN (q.num.natAbs) (i+1):=by
   rw [b1,b2,show fvN (q.num.natAbs) 0=0 from rfl,show fvN (q.num.natAbs) (0+1)=((q.num.natAbs:Nat):Int) from rfl,wrap64 (256*0) ω ω,wrap64 _ ω ω];omega
  refine⟨i+1,ω,by simp only;omega,?_⟩
  constructor<;>(repeat' (first|exact rfl|exact True.intro|apply And.intro))
  all_goals first
   |exact congrArg (fun n:Int=>D.v (.int .i64 n)) hval
   |exact congrArg (fun n:Int=>D.v (.int .i64 n)) hval.symm
   |exact ωb
   |exact ωa
 ·have f15:¬ ((i:Int)< ((List.map byD (blN q.num.natAbs)).length:Int)):=of_decide_eq_false e1
  refine⟨_,⟨5,ωr,ωr,ωr,(congrArg (fun l=>AV.val (.one (.d (.list l)))) (Zey h2)).symm⟩,?_⟩
  have hL26:(List.map byD (blN q.den)).length=(blN q.den).length:=List.length_map ..
  have hb26:=Zpd q.den
  have e4:fvN q.num.natAbs i=(q.num.natAbs:Int):=by
   rw [show i=(blN q.num.natAbs).length by omega];exact ZiU _
  refine⟨Nat,fun j=> [(1,.val (.one (.ptr 1 0))),(4,int (q.num.natAbs:Int)),(5,int (fvN (q.den) j)),(26,.val (.one (.d (.list (List.map byD (blN q.den)))))),(27,int ((List.map byD (blN q.den)).length:Int)),(28,int (j:Int))],
   fun j=> [(1,.var 25 [.d (.v (.bool (cn q).s)),.d (.v (.string (cn q).a)),.d (.v (.string (cn q).d))])],fun j=>j≤(blN (q.den)).length,fun j=>(blN (q.den)).length - j,0,?_,Nat.zero_le _,fun j hs=> ?_⟩
  ·constructor<;>(repeat' (first|exact rfl|exact True.intro|exact⟨_,_,rfl⟩|exact ωd|apply And.intro))
   all_goals first
    |exact congrArg (fun n:Int=>D.v (.int .i64 n)) e4
    |exact congrArg (fun n:Int=>D.v (.int .i64 n)) e4.symm
    |(simp;done)
  refine⟨fun e2=> ?_,fun e2=> ?_⟩
  ·have f29:(j:Int)< ((List.map byD (blN q.den)).length:Int):=of_decide_eq_true e2
   refine get_ex (l:=(blN q.den)) (i:=j) ωm fun x30 hx30=> ?_
   obtain⟨b1,b2,b3⟩:=Zr6 hx30
   refine k_ix j [D.v (.int .u8 ((x30:Int)))] ωf (Ze hx30) rfl ?_
   refine Zhn (k':= .i64) ωr ωr (x30:Int) (by rw [wrap64 _ ω ω]) ?_
   have hval:IntKind.i64.wrap (IntKind.i64.wrap (256*(fvN (q.den) j))+(x30:Int))=fvN (q.den) (j+1):=by
    rw [b1,b2,show fvN (q.den) 0=0 from rfl,show fvN (q.den) (0+1)=((q.den:Nat):Int) from rfl,wrap64 (256*0) ω ω,wrap64 _ ω ω];omega
   refine⟨j+1,ω,by simp only;omega,?_⟩
   constructor<;>(repeat' (first|exact rfl|exact True.intro|apply And.intro))
   all_goals first
    |exact congrArg (fun n:Int=>D.v (.int .i64 n)) hval
    |exact congrArg (fun n:Int=>D.v (.int .i64 n)) hval.symm
    |exact ωb
    |exact ωa
  ·have f29:¬ ((j:Int)< ((List.map byD (blN q.den)).length:Int)):=of_decide_eq_false e2
   refine⟨fun e3=> ?_,fun e3=> ?_⟩
   ·have f39:(cn q).s=true:=e3
    refine Eq.trans (b:= .tup [.one (.d (.v (.int .i64 (IntKind.i64.wrap (0 - (q.num.natAbs:Int)))))),.one (.d (.v (.int .i64 (if 1 >fvN (q.den) j then 1 else fvN (q.den) j))))]) ?_ rfl
    have e5:fvN q.den j=(q.den:Int):=by
     rw [show j=(blN q.den).length by omega];exact ZiU _
    rw [e5,if_neg ω]
    have hs:(cn q).s=decide (q.num< 0):=rfl
    rw [hs] at f39
    have:=of_decide_eq_true f39
    rw [wrap64 _ ω ω,show (0:Int) - (q.num.natAbs:Int)=q.num by omega]
   ·have f39:¬ ((cn q).s=true):=fun hh=>Bool.false_ne_true (e3.symm.trans hh)
    refine Eq.trans (b:= .tup [.one (.d (.v (.int .i64 ((q.num.natAbs:Int))))),.one (.d (.v (.int .i64 (if 1 >fvN (q.den) j then 1 else fvN (q.den) j))))]) ?_ rfl
    have e5:fvN q.den j=(q.den:Int):=by
     rw [show j=(blN q.den).length by omega];exact ZiU _
    rw [e5,if_neg ω]
    have hs:(cn q).s=decide (q.num< 0):=rfl
    have hn:¬ q.num< 0:=fun h=>f39 (decide_eq_true h)
    rw [show (q.num.natAbs:Int)=q.num by omega]
theorem ZgT (x y u v:Int) (hx:-256< x∧x< 256) (hy:-256< y∧y< 256) (hu:-256< u∧u< 256) (hv:-256< v∧v< 256):Spec Tryz.prog Tab 57 [int x,int y,int u,int v] (.val (.one (.d (.list (List.map rdv (qtL (rctI x y u v))))))):=by
 refine Za Tryz.func57 rfl rfl Tryz.ntmps57 rfl ωr rfl rfl ?_
 refine use (ZeA x y hx hy) rfl ?_
 refine use (ZeA u y hu hy) rfl ?_
 refine use (ZeA u v hu hv) rfl ?_
 refine use (ZeA x v hx hv) rfl ?_
 refine Eq.trans (b:= .val (.one (.d (.list ([[D.v (.bool (cn (qtr x)).s),D.v (.string (cn (qtr x)).a),D.v (.string (cn (qtr x)).d),D.v (.bool (cn (qtr y)).s),D.v (.string (cn (qtr y)).a),D.v (.string (cn (qtr y)).d)], [D.v (.bool (cn (qtr u)).s),D.v (.string (cn (qtr u)).a),D.v (.string (cn (qtr u)).d),D.v (.bool (cn (qtr y)).s),D.v (.string (cn (qtr y)).a),D.v (.string (cn (qtr y)).d)], [D.v (.bool (cn (qtr u)).s),D.v (.string (cn (qtr u)).a),D.v (.string (cn (qtr u)).d),D.v (.bool (cn (qtr v)).s),D.v (.string (cn (qtr v)).a),D.v (.string (cn (qtr v)).d)], [D.v (.bool (cn (qtr x)).s),D.v (.string (cn (qtr x)).a),D.v (.string (cn (qtr x)).d),D.v (.bool (cn (qtr v)).s),D.v (.string (cn (qtr v)).a),D.v (.string (cn (qtr v)).d)]]))))) ?_ rfl
 rfl
theorem Zwn (l:List Int) (hl:∀ x,x∈l→-9223372036854775808≤x∧x≤9223372036854775807):SpecV Tryz.prog Tab 22 [.val (.one (.ptr 1000 0)),int 0] 78 [D.list (List.map stD l)] (arm (armM l)) [D.list (List.map stD (l.drop (3+6*cntM l)))]:=by
 have hcm:=Zbu l
 have hcn:=ZN l 2 (n:=3) ωd
 have hcu:cntM l=(1+sv l 2 3).toNat:=rfl
 have hwc:IntKind.i64.wrap (1+(sv l 2 3))=(cntM l:Int):=by rw [wrap64 _ ω ω];omega
 refine fn_V 0 [800018,800022,800029,800034,800040,800044,800048,800052,800060] Tryz.func22 rfl rfl Tryz.ntmps22 rfl ωr rfl rfl rfl ?_
 refine k_ix 0 [D.v (.string (ByteArray.mk #[111,110,101]))] ωf rfl rfl ?_
 refine ZiR (0) (0) ωg ωg ω ω ?_
 have hs1:=ZN l 0 (n:=4) ωd
 refine⟨int (sv l 0 4), [D.list (List.map stD (l.drop (0+1)))],⟨⟨rfl,rfl⟩,ZaH l 0 4 hl ωd⟩,?_⟩
 refine k_ix ((sv l 0 4).toNat) [D.v (.int .i64 (tnM (sv l 0 4)))] ωf (Zt6 (ZN l 0 (n:=4) ωd)) rfl ?_
 have hs2:=ZN l 1 (n:=3) ωd
 refine⟨int (sv l 1 3), [D.list (List.map stD (l.drop (1+1)))],⟨⟨rfl,rfl⟩,ZaH l 1 3 hl ωd⟩,?_⟩
 have htn:=Zrn (sv l 0 4)
 refine Zdp (tnM (sv l 0 4)) ((1+sv l 1 3).toNat) ωg ωg ω ω ?_
 refine⟨ωr,?_⟩
 have hs3:=ZN l 2 (n:=3) ωd
 refine⟨int (sv l 2 3), [D.list (List.map stD (l.drop (2+1)))],⟨⟨rfl,rfl⟩,ZaH l 2 3 hl ωd⟩,?_⟩
 refine⟨Nat,fun j=> [(0,.val (.one (.ptr 1000 0))),(4,.val (.one (.ptr 4 0))),(5,.val (.one (.ptr 5 0))),(30,int (IntKind.i64.wrap (1+(sv l 2 3)))),(31,int (j:Int))],
  fun j=> [(4,.var 34 [.d (.v (.string ⟨#[]⟩)),.d (.v (.bool z0.s)),.d (.v (.string z0.a)),.d (.v (.string z0.d)),.d (.v (.bool z0.s)),.d (.v (.string z0.a)),.d (.v (.string z0.d)),.d (.v (.bool false)),.d (.v (.bool z0.s)),.d (.v (.string z0.a)),.d (.v (.string z0.d)),.d (.v (.slice none 0 0))]),(5,.var 34 (amS l j)),(1000,.var 78 [.d (.list (List.map stD (l.drop (3+6*j))))])]++amO l j,fun j=>j≤cntM l,fun j=>cntM l - j,0,?_,Nat.zero_le _,fun j hs=> ?_⟩
 ·exact ωe
 rcases j with _|j
 ·refine⟨fun e4=> ?_,fun e4=> ?_⟩
  ·have f32:((0:Nat):Int)< IntKind.i64.wrap (1+(sv l 2 3)):=of_decide_eq_true e4
   have hs5:=ZN l (3+6*0) (n:=4) ωd
   refine⟨int (sv l (3+6*0) 4), [D.list (List.map stD (l.drop ((3+6*0)+1)))],⟨⟨rfl,rfl⟩,ZaH l (3+6*0) 4 hl ωd⟩,?_⟩
   have hlw1:IntKind.i64.wrap (4+(IntKind.i64.wrap (2*(sv l (3+6*0) 4))))=lgM l (3+6*0):=by unfold lgM;rw [wrap64 (2*_) ω ω,wrap64 _ ω ω]
   have hlb:4≤lgM l (3+6*0)∧lgM l (3+6*0)≤10:=by unfold lgM;omega
   have hlw2:IntKind.i64.wrap ((IntKind.i64.wrap (4+(IntKind.i64.wrap (2*(sv l (3+6*0) 4)))))+1)=lgM l (3+6*0)+1:=by rw [hlw1,wrap64 _ ω ω]
   refine Zdp (lgM l (3+6*0)) (4) ωg ωg ω ω ?_
   have hs6:=ZN l (3+6*0+1) (n:=6) ωd
   refine⟨int (sv l (3+6*0+1) 6), [D.list (List.map stD (l.drop ((3+6*0+1)+1)))],⟨⟨rfl,rfl⟩,ZaH l (3+6*0+1) 6 hl ωd⟩,?_⟩
   refine Zdp (-1 - sv l (3+6*0+1) 6) (3) ωg ωg ω ω ?_
   have hs7:=ZN l (3+6*0+2) (n:=6) ωd
   refine⟨int (sv l (3+6*0+2) 6), [D.list (List.map stD (l.drop ((3+6*0+2)+1)))],⟨⟨rfl,rfl⟩,ZaH l (3+6*0+2) 6 hl ωd⟩,?_⟩
   refine Zdp (1+sv l (3+6*0+2) 6) (3) ωg ωg ω ω ?_
   have hs8:=ZN l (3+6*0+3) (n:=8) ωd
   refine⟨int (sv l (3+6*0+3) 8), [D.list (List.map stD (l.drop ((3+6*0+3)+1)))],⟨⟨rfl,rfl⟩,ZaH l (3+6*0+3) 8 hl ωd⟩,?_⟩
   refine Zdp (1) ((4+sv l (3+6*0+3) 8).toNat) ωg ωg ω ω ?_
   have hs9:=ZN l (3+6*0+4) (n:=20) ωd
   refine⟨int (sv l (3+6*0+4) 20), [D.list (List.map stD (l.drop ((3+6*0+4)+1)))],⟨⟨rfl,rfl⟩,ZaH l (3+6*0+4) 20 hl ωd⟩,?_⟩
   refine Zdp (1) ((10+sv l (3+6*0+4) 20).toNat) ωg ωg ω ω ?_
   have hrc:=ZgT (-1) (-1) (lgM l (3+6*0)+1) 1 ωd ωd ω ωd
   rw [show int (lgM l (3+6*0)+1)=int (IntKind.i64.wrap ((IntKind.i64.wrap (4+(IntKind.i64.wrap (2*(sv l (3+6*0) 4)))))+1)) from by rw [hlw2]] at hrc
   refine use hrc rfl ?_
   have hs10:=ZN l (3+6*0+5) (n:=3) ωd
   refine⟨int (sv l (3+6*0+5) 3), [D.list (List.map stD (l.drop ((3+6*0+5)+1)))],⟨⟨rfl,rfl⟩,ZaH l (3+6*0+5) 3 hl ωd⟩,?_⟩
   refine⟨fun e11=> ?_,fun e11=> ?_⟩
   ·have f61:sv l (3+6*0+5) 3=2:=ZJ e11
    refine ZiR (-1) (-1) ωg ωg ω ω ?_
    refine ZiR (lgM l (3+6*0)+1) (0) ωg ωg ω ω ?_
    refine ZiR (-1) (1) ωg ωg ω ω ?_
    refine⟨⟨row1 rfl,(by show 1*224≤_;omega),(by show 1≤_;omega)⟩,?_⟩
    have hsh:shM l (3+6*0)= [(-1,-1),(lgM l (3+6*0)+1,0),(-1,1)]:=if_pos f61
    have hlk:lkM l 0=⟨cn (qtr (lgM l (3+6*0))),cn (thr (-1 - sv l (3+6*0+1) 6)),cn (thr (1+sv l (3+6*0+2) 6)),cn (ivr (4+sv l (3+6*0+3) 8)),cn (ivr (10+sv l (3+6*0+4) 20)),qtL ([(-1,-1),(lgM l (3+6*0)+1,0),(-1,1)])⟩:=by unfold lkM;rw [hsh]
    refine⟨0+1,ω,by simp only;omega,?_⟩
    constructor<;>(repeat' (first|exact rfl|exact True.intro|apply And.intro))
    all_goals first
     |(rw [ZcF,List.map_append,hlk];rfl)
     |exact ωb
     |exact ωa
   ·have f61:¬ (sv l (3+6*0+5) 3=2):=ZK e11
    refine⟨⟨row1 rfl,(by show 1*224≤_;omega),(by show 1≤_;omega)⟩,?_⟩
    have hsh:shM l (3+6*0)=rctI (-1) (-1) (lgM l (3+6*0)+1) 1:=if_neg f61
    have hlk:lkM l 0=⟨cn (qtr (lgM l (3+6*0))),cn (thr (-1 - sv l (3+6*0+1) 6)),cn (thr (1+sv l (3+6*0+2) 6)),cn (ivr (4+sv l (3+6*0+3) 8)),cn (ivr (10+sv l (3+6*0+4) 20)),qtL (rctI (-1) (-1) (lgM l (3+6*0)+1) 1)⟩:=by unfold lkM;rw [hsh]
    refine⟨0+1,ω,by simp only;omega,?_⟩
    constructor<;>(repeat' (first|exact rfl|exact True.intro|apply And.intro))
    all_goals first
     |(rw [ZcF,List.map_append,hlk];rfl)
     |exact ωb
     |exact ωa
  ·have f32:¬ (((0:Nat):Int)< IntKind.i64.wrap (1+(sv l 2 3))):=of_decide_eq_false e4
   exfalso
   omega
 ·have hlk2:(List.map lk (lksM l (j+1))).length=j+1:=by rw [List.length_map,ZaI]
  refine⟨fun e12=> ?_,fun e12=> ?_⟩
  ·have f32:((j+1:Nat):Int)< IntKind.i64.wrap (1+(sv l 2 3)):=of_decide_eq_true e12
   have hs13:=ZN l (3+6*(j+1)) (n:=4) ωd
   refine⟨int (sv l (3+6*(j+1)) 4), [D.list (List.map stD (l.drop ((3+6*(j+1))+1)))],⟨⟨rfl,rfl⟩,ZaH l (3+6*(j+1)) 4 hl ωd⟩,?_⟩
   have hlw1:IntKind.i64.wrap (4+(IntKind.i64.wrap (2*(sv l (3+6*(j+1)) 4))))=lgM l (3+6*(j+1)):=by unfold lgM;rw [wrap64 (2*_) ω ω,wrap64 _ ω ω]
   have hlb:4≤lgM l (3+6*(j+1))∧lgM l (3+6*(j+1))≤10:=by unfold lgM;omega
   have hlw2:IntKind.i64.wrap ((IntKind.i64.wrap (4+(IntKind.i64.wrap (2*(sv l (3+6*(j+1)) 4)))))+1)=lgM l (3+6*(j+1))+1:=by rw [hlw1,wrap64 _ ω ω]
   refine Zdp (lgM l (3+6*(j+1))) (4) ωg ωg ω ω ?_
   have hs14:=ZN l (3+6*(j+1)+1) (n:=6) ωd
   refine⟨int (sv l (3+6*(j+1)+1) 6), [D.list (List.map stD (l.drop ((3+6*(j+1)+1)+1)))],⟨⟨rfl,rfl⟩,ZaH l (3+6*(j+1)+1) 6 hl ωd⟩,?_⟩
   refine Zdp (-1 - sv l (3+6*(j+1)+1) 6) (3) ωg ωg ω ω ?_
   have hs15:=ZN l (3+6*(j+1)+2) (n:=6) ωd
   refine⟨int (sv l (3+6*(j+1)+2) 6), [D.list (List.map stD (l.drop ((3+6*(j+1)+2)+1)))],⟨⟨rfl,rfl⟩,ZaH l (3+6*(j+1)+2) 6 hl ωd⟩,?_⟩
   refine Zdp (1+sv l (3+6*(j+1)+2) 6) (3) ωg ωg ω ω ?_
   have hs16:=ZN l (3+6*(j+1)+3) (n:=8) ωd
   refine⟨int (sv l (3+6*(j+1)+3) 8), [D.list (List.map stD (l.drop ((3+6*(j+1)+3)+1)))],⟨⟨rfl,rfl⟩,ZaH l (3+6*(j+1)+3) 8 hl ωd⟩,?_⟩
   refine Zdp (1) ((4+sv l (3+6*(j+1)+3) 8).toNat) ωg ωg ω ω ?_
   have hs17:=ZN l (3+6*(j+1)+4) (n:=20) ωd
   refine⟨int (sv l (3+6*(j+1)+4) 20), [D.list (List.map stD (l.drop ((3+6*(j+1)+4)+1)))],⟨⟨rfl,rfl⟩,ZaH l (3+6*(j+1)+4) 20 hl ωd⟩,?_⟩
   refine Zdp (1) ((10+sv l (3+6*(j+1)+4) 20).toNat) ωg ωg ω ω ?_
   have hrc:=ZgT (-1) (-1) (lgM l (3+6*(j+1))+1) 1 ωd ωd ω ωd
   rw [show int (lgM l (3+6*(j+1))+1)=int (IntKind.i64.wrap ((IntKind.i64.wrap (4+(IntKind.i64.wrap (2*(sv l (3+6*(j+1)) 4)))))+1)) from by rw [hlw2]] at hrc
   refine use hrc rfl ?_
   have hs18:=ZN l (3+6*(j+1)+5) (n:=3) ωd
   refine⟨int (sv l (3+6*(j+1)+5) 3), [D.list (List.map stD (l.drop ((3+6*(j+1)+5)+1)))],⟨⟨rfl,rfl⟩,ZaH l (3+6*(j+1)+5) 3 hl ωd⟩,?_⟩
   refine⟨fun e19=> ?_,fun e19=> ?_⟩
   ·have f61:sv l (3+6*(j+1)+5) 3=2:=ZJ e19
    refine ZiR (-1) (-1) ωg ωg ω ω ?_
    refine ZiR (lgM l (3+6*(j+1))+1) (0) ωg ωg ω ω ?_
    refine ZiR (-1) (1) ωg ωg ω ω ?_
    refine⟨⟨row1 rfl,(by show ((List.map lk (lksM l (j+1))).length+1)*224≤_;omega),(by show ((List.map lk (lksM l (j+1))).length+1)≤_;omega)⟩,?_⟩
    have hsh:shM l (3+6*(j+1))= [(-1,-1),(lgM l (3+6*(j+1))+1,0),(-1,1)]:=if_pos f61
    have hlk:lkM l (j+1)=⟨cn (qtr (lgM l (3+6*(j+1)))),cn (thr (-1 - sv l (3+6*(j+1)+1) 6)),cn (thr (1+sv l (3+6*(j+1)+2) 6)),cn (ivr (4+sv l (3+6*(j+1)+3) 8)),cn (ivr (10+sv l (3+6*(j+1)+4) 20)),qtL ([(-1,-1),(lgM l (3+6*(j+1))+1,0),(-1,1)])⟩:=by unfold lkM;rw [hsh]
    refine⟨j+1+1,ω,by simp only;omega,?_⟩
    constructor<;>(repeat' (first|exact rfl|exact True.intro|apply And.intro))
    all_goals first
     |(rw [ZcF,List.map_append,hlk];rfl)
     |exact ωb
     |exact ωa
   ·have f61:¬ (sv l (3+6*(j+1)+5) 3=2):=ZK e19
    refine⟨⟨row1 rfl,(by show ((List.map lk (lksM l (j+1))).length+1)*224≤_;omega),(by show ((List.map lk (lksM l (j+1))).length+1)≤_;omega)⟩,?_⟩
    have hsh:shM l (3+6*(j+1))=rctI (-1) (-1) (lgM l (3+6*(j+1))+1) 1:=if_neg f61
    have hlk:lkM l (j+1)=⟨cn (qtr (lgM l (3+6*(j+1)))),cn (thr (-1 - sv l (3+6*(j+1)+1) 6)),cn (thr (1+sv l (3+6*(j+1)+2) 6)),cn (ivr (4+sv l (3+6*(j+1)+3) 8)),cn (ivr (10+sv l (3+6*(j+1)+4) 20)),qtL (rctI (-1) (-1) (lgM l (3+6*(j+1))+1) 1)⟩:=by unfold lkM;rw [hsh]
    refine⟨j+1+1,ω,by simp only;omega,?_⟩
    constructor<;>(repeat' (first|exact rfl|exact True.intro|apply And.intro))
    all_goals first
     |(rw [ZcF,List.map_append,hlk];rfl)
     |exact ωb
     |exact ωa
  ·have f32:¬ (((j+1:Nat):Int)< IntKind.i64.wrap (1+(sv l 2 3))):=of_decide_eq_false e12
   refine⟨Eq.trans (b:= .val (.agg [.d (.v (.string (ByteArray.mk #[111,110,101]))),.d (.v (.bool (cn (qtr (0))).s)),.d (.v (.string (cn (qtr (0))).a)),.d (.v (.string (cn (qtr (0))).d)),.d (.v (.bool (cn (qtr (0))).s)),.d (.v (.string (cn (qtr (0))).a)),.d (.v (.string (cn (qtr (0))).d)),.d (.v (.bool false)),.d (.v (.bool (cn (tqM l)).s)),.d (.v (.string (cn (tqM l)).a)),.d (.v (.string (cn (tqM l)).d)),.d (.list (List.map lk (lksM l (j+1))))])) ?_ rfl,rfl,?_⟩
   ·rw [show j+1=cntM l by omega];try rfl
   ·rw [← (show j+1=cntM l by omega)];try rfl
end
open Go.RowKit num mem seg q held ratA ratB ratC ratD ratE vars ratF prf natC natD natI sub32
section
variable {K : AV → Prop}
theorem Zvz (l:List Int) (hl:∀ x,x∈l→-9223372036854775808≤x∧x≤9223372036854775807) (m:List Int) (hm:∀ x,x∈m→-9223372036854775808≤x∧x≤9223372036854775807):SpecV Tryz.prog Tab 23 [arm (armM l),.val (.one (.ptr 1000 0))] 78 [D.list (List.map stD m)] (.val (.one (.d (.list (List.map rdc (cfF l m (cntM l))))))) [D.list (List.map stD (m.drop (cntM l)))]:=by
 have hcm:=Zbu l
 have hLk:(List.map lk (armM l).links).length=cntM l:=by rw [List.length_map];exact ZaI l _
 refine fn_V 1 [800033] Tryz.func23 rfl rfl Tryz.ntmps23 rfl ωr rfl rfl rfl ?_
 refine⟨Nat,fun j=> [(1,.val (.one (.ptr 1000 0))),(5,.val (.one (.row 55 0))),(14,.val (.one (.d (.list (List.map lk ((armM l).links)))))),(15,int ((List.map lk ((armM l).links)).length:Int)),(16,int (j:Int))],
  fun j=> [(55,.row 25 3 0 (List.map rdc (cfF l m j)) true),(1000,.var 78 [.d (.list (List.map stD (m.drop j)))])],fun j=>j≤cntM l,fun j=>cntM l - j,0,?_,Nat.zero_le _,fun j hs=> ?_⟩
 ·exact ωe
 have hcl:(List.map rdc (cfF l m j)).length=j:=by rw [List.length_map,Zo6]
 refine⟨fun e1=> ?_,fun e1=> ?_⟩
 ·have f17:(j:Int)< ((List.map lk ((armM l).links)).length:Int):=of_decide_eq_true e1
  refine get_ex (l:=((armM l).links)) (i:=j) (by have:=ZaI l (cntM l);show j< (lksM l (cntM l)).length;omega) fun x18 hx18=> ?_
  have el18:x18.low=cn (loT l j):=by rw [(ZiG hx18).1];rfl
  have eh18:x18.high=cn (hiT l j):=by rw [(ZiG hx18).1];rfl
  refine k_ix j [D.v (.bool x18.len.s),D.v (.string x18.len.a),D.v (.string x18.len.d),D.v (.bool x18.low.s),D.v (.string x18.low.a),D.v (.string x18.low.d),D.v (.bool x18.high.s),D.v (.string x18.high.a),D.v (.string x18.high.d),D.v (.bool x18.speed.s),D.v (.string x18.speed.a),D.v (.string x18.speed.d),D.v (.bool x18.brake.s),D.v (.string x18.brake.a),D.v (.string x18.brake.d),D.list (List.map rdv x18.shape)] ωf (Ze hx18) rfl ?_
  have hfr23:=Zhr (loT l j) (by have h:=ZhX (ZN l (3+6*j+1) (n:=6) ωd);change ((loT l j).num=-1∧(loT l j).den=3)∨((loT l j).num=-2∧(loT l j).den=3)∨((loT l j).num=-1∧(loT l j).den=1)∨((loT l j).num=-4∧(loT l j).den=3)∨((loT l j).num=-5∧(loT l j).den=3)∨((loT l j).num=-2∧(loT l j).den=1) at h;omega) (by have h:=ZhX (ZN l (3+6*j+1) (n:=6) ωd);change ((loT l j).num=-1∧(loT l j).den=3)∨((loT l j).num=-2∧(loT l j).den=3)∨((loT l j).num=-1∧(loT l j).den=1)∨((loT l j).num=-4∧(loT l j).den=3)∨((loT l j).num=-5∧(loT l j).den=3)∨((loT l j).num=-2∧(loT l j).den=1) at h;omega)
  rw [← el18] at hfr23
  refine use hfr23 rfl ?_
  have hfr29:=Zhr (hiT l j) (by have h:=ZhW (ZN l (3+6*j+2) (n:=6) ωd);change ((hiT l j).num=1∧(hiT l j).den=3)∨((hiT l j).num=2∧(hiT l j).den=3)∨((hiT l j).num=1∧(hiT l j).den=1)∨((hiT l j).num=4∧(hiT l j).den=3)∨((hiT l j).num=5∧(hiT l j).den=3)∨((hiT l j).num=2∧(hiT l j).den=1) at h;omega) (by have h:=ZhW (ZN l (3+6*j+2) (n:=6) ωd);change ((hiT l j).num=1∧(hiT l j).den=3)∨((hiT l j).num=2∧(hiT l j).den=3)∨((hiT l j).num=1∧(hiT l j).den=1)∨((hiT l j).num=4∧(hiT l j).den=3)∨((hiT l j).num=5∧(hiT l j).den=3)∨((hiT l j).num=2∧(hiT l j).den=1) at h;omega)
  rw [← eh18] at hfr29
  refine use hfr29 rfl ?_
  have hs9:=ZN m j (n:=9) ωd
  refine⟨int (sv m j 9), [D.list (List.map stD (m.drop (j+1)))],⟨⟨rfl,rfl⟩,ZaH m j 9 hm ωd⟩,?_⟩
  have hci:=Zo3 l m j
  refine ZrU (v:=cfV l m j) (cfN (loT l j).num (hiT l j).num (loT l j).den (hiT l j).den (sv m j 9)) (8*(loT l j).den*(hiT l j).den) hci.1.1 hci.2.1 hci.1.2 hci.2.2 rfl ?_
  refine⟨⟨row1 rfl,(by show ((List.map rdc (cfF l m j)).length+1)*40≤_;omega),(by show ((List.map rdc (cfF l m j)).length+1)≤_;omega)⟩,?_⟩
  refine⟨j+1,ω,by simp only;omega,?_⟩
  constructor<;>(repeat' (first|(set_option maxHeartbeats 20000 in exact rfl)|exact True.intro|apply And.intro))
  all_goals first
   |exact ωb
   |(rw [Zq2,List.map_append];rfl)
   |exact ωb
   |exact ωa
 ·have f17:¬ ((j:Int)< ((List.map lk ((armM l).links)).length:Int)):=of_decide_eq_false e1
  refine⟨Eq.trans (b:= .val (.one (.d (.list (List.map rdc (cfF l m j)))))) ?_ rfl,rfl,?_⟩
  ·exact congrArg (fun n=>AV.val (.one (.d (.list (List.map rdc (cfF l m n)))))) (show cntM l=j by omega)
  ·exact congrArg (fun n=>Ob.var 78 [.d (.list (List.map stD (m.drop n)))]) (show j=cntM l by omega)
end
open Go.RowKit num mem seg q held ratA ratB ratC ratD ratE vars ratF prf natC natD natI sub32
section
variable {K : AV → Prop}
theorem Zrg (l:List Int) (hl:∀ x,x∈l→-9223372036854775808≤x∧x≤9223372036854775807):Spec Tryz.prog Tab 5 [.val (.one (.d (.list (List.map stD l))))] (arm (armM l)):=by
 refine Zej [800006] Tryz.func5 rfl rfl Tryz.ntmps5 rfl ωr rfl rfl ?_
 refine⟨(arm (armM l)), [D.list (List.map stD (l.drop (3+6*cntM l)))],⟨⟨rfl,rfl⟩,Zwn l hl⟩,?_⟩
 refine Eq.trans (b:= (arm (armM l))) ?_ rfl
 rfl
theorem ZhO (l:List Int) (hl:∀ x,x∈l→-9223372036854775808≤x∧x≤9223372036854775807) (m:List Int) (hm:∀ x,x∈m→-9223372036854775808≤x∧x≤9223372036854775807):Spec Tryz.prog Tab 6 [arm (armM l),.val (.one (.d (.list (List.map stD m))))] (.val (.one (.d (.list (List.map rdc (cfF l m (cntM l))))))):=by
 refine Zej [800009] Tryz.func6 rfl rfl Tryz.ntmps6 rfl ωr rfl rfl ?_
 refine⟨.val (.one (.d (.list (List.map rdc (cfF l m (cntM l)))))), [D.list (List.map stD (m.drop (cntM l)))],⟨⟨rfl,rfl⟩,Zvz l hl m hm⟩,?_⟩
 refine Eq.trans (b:= .val (.one (.d (.list (List.map rdc (cfF l m (cntM l))))))) ?_ rfl
 rfl
end
open Go.RowKit num mem seg q held ratA ratB ratC ratD ratE vars ratF trq
def oriI (a b c:Int×Int):Int:=(b.1 - a.1)*(c.2 - a.2) - (b.2 - a.2)*(c.1 - a.1)
theorem ZfM (a b:Int):qtr a - qtr b=qtr (a - b):=by
 unfold qtr
 rw [Rat.intCast_sub,Rat.div_def,Rat.div_def,Rat.div_def];grind
theorem Znc (a b:Int):qtr a*qtr b=((a*b:Int):Rat)*(((1:Int):Rat) / ((16:Int):Rat)):=by
 unfold qtr
 have h:(((4:Nat):Rat))⁻¹*(((4:Nat):Rat))⁻¹=((1:Int):Rat) / ((16:Int):Rat):=by decide+kernel
 rw [Rat.intCast_mul,Rat.div_def,Rat.div_def,← h];grind
theorem ZsN {a b c:Int×Int} (h:0< oriI a b c):0< poly.ori (qtr a.1,qtr a.2) (qtr b.1,qtr b.2) (qtr c.1,qtr c.2):=by
 have e:poly.ori (qtr a.1,qtr a.2) (qtr b.1,qtr b.2) (qtr c.1,qtr c.2)=((oriI a b c:Int):Rat)*(((1:Int):Rat) / ((16:Int):Rat)):=by
  unfold poly.ori oriI
  simp only
  rw [ZfM,ZfM,ZfM,ZfM,Znc,Znc,Rat.intCast_sub];grind
 rw [e]
 exact Rat.mul_pos (Rat.intCast_pos.2 h) ωk
def EdgesI (P:List (Int×Int)):Prop:=∀ i k,i< P.length→2≤k→k< P.length→0< oriI ((P[i]?).getD (0,0)) ((P[(i+1) % P.length]?).getD (0,0)) ((P[(i+k) % P.length]?).getD (0,0))
