/- Joined by wip/bundle.py: XEngGrid XEngGrid2 XEngGrid3 XLawGrid. -/
import Derived.Test.YtcogfmileelkeaaDoorGrpS
import Derived.Test.YtcogfmileelkeaaDoorGrpA
import Derived.Test.YtcogfmileelkeaaDoorGrpT
set_option maxRecDepth 100000
namespace Go.Proofs.YtcogfmileelkeaaDoor.eng
open Go.RowKit num mem seg q held ratA ratB ratC ratD ratE vars ratF natC natD natI
section
variable {x y z t : RV} {K : AV → Prop}
def one3 (a b:Int) (c:Bool):AV:= .tup [.one (.d (.v (.int .i64 a))),.one (.d (.v (.int .i64 b))),.one (.d (.v (.bool c)))]
theorem Zfe (n:Int):Spec Tryd.prog Tab 20 [int n] (bool (decide (-64≤n∧n< 64))):=by
 refine Zn Tryd.func20 rfl rfl Tryd.ntmps20 rfl (by kernel_rfl) rfl rfl ?_
 refine fork (fun e=> ?_) (fun e=> ?_)
 ·refine Eq.trans (b:=bool (decide (n< 64))) ?_ rfl
  have h:=of_decide_eq_true e
  congr 1
  rw [decide_eq_decide];omega
 ·refine Eq.trans (b:=bool false) ?_ rfl
  have h:=of_decide_eq_false e
  rw [decide_eq_false (by omega)]
theorem k_on (n:Int) (k:∀ b,b=decide (-64≤n∧n< 64)→K (bool b)):Ask 20 [int n] K:=use (Zfe n) rfl (k _ rfl)
def c0 (p:Rat):Int:=-(-p).floor - 1
def c1 (q:Rat):Int:=q.floor
def inG (p q:Rat):Prop:=((-64:Int):Rat)< p∧q< ((64:Int):Rat)
instance (p q:Rat):Decidable (inG p q):=by unfold inG;infer_instance
theorem Zf8 {q:Rat}:flE q=0↔q.floor.natAbs≤9223372036854775807:=by
 unfold flE intE;split<;>simp<;>omega
theorem Zf7 {q:Rat} (h:flE q=0):flV q=q.floor:=by
 have h:=Zf8.1 h
 unfold flV intV
 rw [if_pos h]
 split<;>omega
theorem Zie (q:Rat):-9223372036854775807≤flV q∧flV q≤9223372036854775807:=by
 have:=Zc8 q.floor.natAbs
 unfold flV;split<;>omega
theorem Zkz (p:Rat):-64≤c0 p↔((-64:Int):Rat)< p:=by
 unfold c0
 have h:=@Rat.floor_lt_iff (-p) 64
 constructor
 ·intro h1
  have:=h.1 (by omega)
  have e:((64:Int):Rat)=64:=rfl
  have e2:((-64:Int):Rat)=-64:=rfl
  rw [e] at this;rw [e2];grind
 ·intro h1
  have e:((64:Int):Rat)=64:=rfl
  have e2:((-64:Int):Rat)=-64:=rfl
  rw [e2] at h1
  have:=h.2 (by rw [e];grind)
  omega
theorem Zky (q:Rat):c1 q< 64↔q< ((64:Int):Rat):=Rat.floor_lt_iff
theorem ZdP {p q:Rat} (h:p≤q):c0 p≤c1 q:=by
 unfold c0 c1
 have h1:((-(-p).floor - 1:Int):Rat)≤q:=by
  have h2:=@Rat.floor_lt_iff (-p) ((-p).floor+1)
  have h3:=h2.1 (by omega)
  have e:((-(-p).floor - 1:Int):Rat)=-(((-p).floor+1:Int):Rat):=by
   rw [← Rat.intCast_neg];congr 1;omega
  rw [e];grind
 exact Rat.le_floor_iff.2 h1
theorem Zhv {p q:Rat} (h:p≤q):(((-64≤c0 p∧c0 p< 64)∧(-64≤c1 q∧c1 q< 64))↔inG p q):=by
 have h1:=ZdP h
 have h2:=Zkz p
 have h3:=Zky q
 unfold inG
 constructor
 ·rintro⟨⟨a,_⟩,_,b⟩;exact⟨h2.1 a,h3.1 b⟩
 ·rintro⟨a,b⟩
  have a':=h2.2 a
  have b':=h3.2 b
  omega
theorem ZiQ {p q:Rat} (h:p≤q) (hg:inG p q):flE q=0∧flE (-p)=0:=by
 have h1:=ZdP h
 have h2:=(Zkz p).2 hg.1
 have h3:=(Zky q).2 hg.2
 unfold c0 at h1 h2
 unfold c1 at h1 h3
 constructor<;>(rw [Zf8];omega)
set_option maxHeartbeats 2000000 in
theorem Ze3 (x y:RV) (hx:x.z≤1099511627776) (hy:y.z≤1099511627776) (hle:x.q≤y.q) (hg:inG x.q y.q):Spec Tryd.prog Tab 30 [rat x,rat y] (one3 (c0 x.q) (c1 y.q) true):=by
 obtain⟨z1,z2⟩:=ZiQ hle hg
 obtain⟨⟨g1,g2⟩,g3,g4⟩:=(Zhv hle).2 hg
 refine Zn Tryd.func30 rfl rfl Tryd.ntmps30 rfl (by kernel_rfl) rfl rfl ?_
 refine ZdF (by omega) fun v e hv he=> ?_
 refine Zk2 (by omega) fun p hp zp=> ?_
 refine ZdF (by omega) fun v2 e2 hv2 he2=> ?_
 rw [cn_q,hp] at hv2 he2
 rw [Zf7 z1] at hv
 rw [Zf7 z2] at hv2
 have hw:IntKind.i64.wrap (IntKind.i64.wrap (0 - v2) - 1)=c0 x.q:=by
  have hc:c0 x.q=-v2 - 1:=by rw [hv2];rfl
  rw [wrap64 (0 - v2) (by omega) (by omega),wrap64 _ (by omega) (by omega)];omega
 have hv':v=c1 y.q:=hv
 refine fork (fun _=> ?_) (fun e5=>absurd (show (e==0)=false from e5) (by rw [he,z1];decide))
 refine fork (fun _=> ?_) (fun e5=>absurd (show (e2==0)=false from e5) (by rw [he2,z2];decide))
 refine k_on _ fun b1 h1=> ?_
 have h1':b1=true:=by rw [h1,hw];exact decide_eq_true ⟨g1,g2⟩
 subst h1'
 refine k_on v fun b2 h2=> ?_
 have h2':b2=true:=by rw [h2,hv'];exact decide_eq_true ⟨g3,g4⟩
 subst h2'
 refine Eq.trans (b:=one3 (IntKind.i64.wrap (IntKind.i64.wrap (0 - v2) - 1)) v true) ?_ rfl
 rw [hv',hw]
theorem Ze4 (x y:RV) (hx:x.z≤1099511627776) (hy:y.z≤1099511627776) (hle:x.q≤y.q) (hg:¬ inG x.q y.q):∃ a b,Spec Tryd.prog Tab 30 [rat x,rat y] (one3 a b false):=by
 refine⟨IntKind.i64.wrap (IntKind.i64.wrap (0 - flV (-x.q)) - 1),flV y.q,?_⟩
 refine Zn Tryd.func30 rfl rfl Tryd.ntmps30 rfl (by kernel_rfl) rfl rfl ?_
 refine ZdF (by omega) fun v e hv he=> ?_
 refine Zk2 (by omega) fun p hp zp=> ?_
 refine ZdF (by omega) fun v2 e2 hv2 he2=> ?_
 rw [cn_q,hp] at hv2 he2
 have fin:∀ b:Bool,b=false→one3 (IntKind.i64.wrap (IntKind.i64.wrap (0 - flV (-x.q)) - 1)) (flV y.q) false=one3 (IntKind.i64.wrap (IntKind.i64.wrap (0 - v2) - 1)) v b:=fun b hb=>by rw [hb,hv,hv2]
 refine fork (fun e5=> ?_) (fun _=>fin false rfl)
 have z1:flE y.q=0:=by rw [← he];exact eq_of_beq e5
 refine fork (fun e6=> ?_) (fun _=>fin false rfl)
 have z2:flE (-x.q)=0:=by rw [← he2];exact eq_of_beq e6
 have r2:=Zie (-x.q)
 have hw:IntKind.i64.wrap (IntKind.i64.wrap (0 - v2) - 1)=c0 x.q:=by
  have hc:c0 x.q=-v2 - 1:=by rw [hv2,Zf7 z2];rfl
  rw [← hv2] at r2
  rw [wrap64 (0 - v2) (by omega) (by omega),wrap64 _ (by omega) (by omega)];omega
 refine k_on _ fun b1 h1=> ?_
 cases b1 with
 |false=>exact fin false rfl
 |true=>
  refine k_on v fun b2 h2=> ?_
  refine fin b2 ?_
  rw [h2]
  refine decide_eq_false fun h3=>hg ((Zhv hle).1 ⟨?_,?_⟩)
  ·have:=of_decide_eq_true h1.symm
   rw [hw] at this;exact this
  ·rw [hv,Zf7 z1] at h3;exact h3
theorem Zbr (hx:x.z≤1099511627776) (hy:y.z≤1099511627776) (hle:x.q≤y.q) (k1:inG x.q y.q→K (one3 (c0 x.q) (c1 y.q) true)) (k0:¬ inG x.q y.q→∀ a b,K (one3 a b false)):Ask 30 [rat x,rat y] K:=by
 by_cases h:inG x.q y.q
 ·exact use (Ze3 x y hx hy hle h) rfl (k1 h)
 ·obtain⟨a,b,hs⟩:=Ze4 x y hx hy hle h
  exact use hs rfl (k0 h a b)
def bxOk (x y z t:RV):Prop:=x.q≤z.q∧y.q≤t.q
end
end Go.Proofs.YtcogfmileelkeaaDoor.eng
namespace Go.Proofs.YtcogfmileelkeaaDoor.eng
open Go.RowKit num mem seg q held ratA ratB ratC ratD ratE vars ratF natC natD natI
def CL (l:List (Int×Int)):List (List D):=l.map fun c=> [D.v (.int .i64 c.1),D.v (.int .i64 c.2)]
def clv (l:List (Int×Int)):AV:= .val (.one (.d (.list (CL l))))
def ivl (a b:Int):List Int:=(List.range (b - a+1).toNat).map fun i:Nat=>a+(i:Int)
theorem Zfk (a b:Int):(ivl a b).length=(b - a+1).toNat:=by simp [ivl]
theorem ZjN {a b:Int} {i:Nat} (h:i< (b - a+1).toNat):(ivl a b)[i]? =some (a+(i:Int)):=by
 unfold ivl
 rw [List.getElem?_map,List.getElem?_range h];rfl
section
variable {x y z t : RV} {K : AV → Prop}
end
end Go.Proofs.YtcogfmileelkeaaDoor.eng
namespace Go.Proofs.YtcogfmileelkeaaDoor.eng
open Go.RowKit num mem seg q held ratA ratB ratC ratD ratE vars ratF natC natD natI
def cellsL (xs ys:List Int):List (Int×Int):=ys.flatMap fun v=>xs.map fun u=>(u,v)
def rowC (xs:List Int) (v:Int) (i:Nat):List (Int×Int):=(xs.take i).map fun u=>(u,v)
theorem Zll (l m:List (Int×Int)):CL (l++m)=CL l++CL m:=by simp [CL]
theorem Zg6 (xs ys:List Int):(cellsL xs ys).length=ys.length*xs.length:=by
 unfold cellsL
 induction ys with
 |nil=>simp
 |cons v ys ih=>rw [List.flatMap_cons,List.length_append,ih,List.length_map,List.length_cons,Nat.add_mul,Nat.one_mul,Nat.add_comm]
theorem ZhA {xs:List Int} {v u:Int} {i:Nat} (h:xs[i]? =some u):rowC xs v (i+1)=rowC xs v i++ [(u,v)]:=by
 unfold rowC
 rw [List.take_add_one,h];simp
theorem ZiV {xs:List Int} {v:Int} {i:Nat} (h:xs.length≤i):rowC xs v i=xs.map fun u=>(u,v):=by unfold rowC;rw [List.take_of_length_le h]
theorem Zfs {xs ys:List Int} {v:Int} {j:Nat} (h:ys[j]? =some v):cellsL xs (ys.take (j+1))=cellsL xs (ys.take j)++xs.map fun u=>(u,v):=by
 unfold cellsL
 rw [List.take_add_one,h,List.flatMap_append];simp
theorem ZiU (xs:List Int) (v:Int) (i:Nat):(rowC xs v i).length≤xs.length:=by unfold rowC;rw [List.length_map,List.length_take];omega
theorem Zi3 (xs ys:List Int) (v:Int) (i j:Nat) (hx:xs.length≤128) (hy:ys.length≤128):(CL (cellsL xs (ys.take j)++rowC xs v i)).length≤32768:=by
 have h1:=ZiU xs v i
 have h2:(ys.take j).length*xs.length≤128*128:=Nat.mul_le_mul (by rw [List.length_take];omega) hx
 unfold CL
 rw [List.length_map,List.length_append,Zg6];omega
section
variable {x y z t : RV} {K : AV → Prop}
instance (x y z t:RV):Decidable (bxOk x y z t):=by unfold bxOk;infer_instance
def gridR (x y z t:RV):List (Int×Int)×Int:=
 if bxOk x y z t then (if inG x.q z.q∧inG y.q t.q then (if (c1 z.q - c0 x.q+1)*(c1 t.q - c0 y.q+1) >400 then ([],2) else (cellsL (ivl (c0 x.q) (c1 z.q)) (ivl (c0 y.q) (c1 t.q)),0)) else ([],17)) else ([],1)
theorem ZjM {p q:Rat} (h:p≤q) (hg:inG p q):-64≤c0 p∧c1 q< 64∧c0 p≤c1 q∧(ivl (c0 p) (c1 q)).length≤128:=by
 have h1:=(Zkz p).2 hg.1
 have h2:=(Zky q).2 hg.2
 have h3:=ZdP h
 rw [Zfk];omega
set_option maxHeartbeats 4000000 in
theorem Zjk (x y z t:RV) (hx:x.z≤1099511627776) (hy:y.z≤1099511627776) (hz:z.z≤1099511627776) (ht:t.z≤1099511627776):Spec Tryd.prog Tab 18 [box x y z t] (two (clv (gridR x y z t).1) (int (gridR x y z t).2)):=by
 have bad:¬ bxOk x y z t→two (clv (gridR x y z t).1) (int (gridR x y z t).2)=two (clv []) (int 1):=fun h=>by unfold gridR;rw [if_neg h]
 have far:bxOk x y z t→¬ (inG x.q z.q∧inG y.q t.q)→two (clv (gridR x y z t).1) (int (gridR x y z t).2)=two (clv []) (int 17):=fun h h2=>by unfold gridR;rw [if_pos h,if_neg h2]
 refine Zn Tryd.func18 rfl rfl Tryd.ntmps18 rfl (by kernel_rfl) rfl rfl ?_
 refine Zk5 (by omega) (by omega) fun n1 h1=> ?_
 refine fork (fun e1=> ?_) (fun e1=> ?_)
 ·have hlt:=(ZdN _ _).1 (by rw [← h1];exact of_decide_eq_true e1)
  refine⟨fun _=> ?_,fun e=>by simp at e⟩
  exact bad (fun h=>absurd h.1 (Rat.not_le.2 hlt))
 have hxz:x.q≤z.q:=Rat.not_lt.1 (fun h=>of_decide_eq_false e1 (by rw [h1];exact(ZdN _ _).2 h))
 refine Zk5 (by omega) (by omega) fun n2 h2=> ?_
 refine⟨fun e2=> ?_,fun e2=> ?_⟩
 ·have hlt:=(ZdN _ _).1 (by rw [← h2];exact of_decide_eq_true e2)
  exact bad (fun h=>absurd h.2 (Rat.not_le.2 hlt))
 have hyt:y.q≤t.q:=Rat.not_lt.1 (fun h=>of_decide_eq_false e2 (by rw [h2];exact(ZdN _ _).2 h))
 refine Zbr (by omega) (by omega) hxz (fun g1=> ?_) (fun g1 a b=> ?_)
 ·refine Zbr (by omega) (by omega) hyt (fun g2=> ?_) (fun g2 a b=> ?_)
  ·obtain⟨p1,p2,p3,p4⟩:=ZjM hxz g1
   obtain⟨r1,r2,r3,r4⟩:=ZjM hyt g2
   refine⟨fun e=>by simp at e,fun _=> ?_⟩
   have hw1:IntKind.i64.wrap (IntKind.i64.wrap (c1 z.q - c0 x.q)+1)=c1 z.q - c0 x.q+1:=by rw [wrap64 (c1 z.q - c0 x.q) (by omega) (by omega),wrap64 _ (by omega) (by omega)]
   have hw2:IntKind.i64.wrap (IntKind.i64.wrap (c1 t.q - c0 y.q)+1)=c1 t.q - c0 y.q+1:=by rw [wrap64 (c1 t.q - c0 y.q) (by omega) (by omega),wrap64 _ (by omega) (by omega)]
   have hm:0≤(c1 z.q - c0 x.q+1)*(c1 t.q - c0 y.q+1)∧(c1 z.q - c0 x.q+1)*(c1 t.q - c0 y.q+1)≤128*128:=⟨Int.mul_nonneg (by omega) (by omega),Int.mul_le_mul (by omega) (by omega) (by omega) (by omega)⟩
   have hw3:IntKind.i64.wrap (IntKind.i64.wrap (IntKind.i64.wrap (c1 z.q - c0 x.q)+1)*IntKind.i64.wrap (IntKind.i64.wrap (c1 t.q - c0 y.q)+1))=(c1 z.q - c0 x.q+1)*(c1 t.q - c0 y.q+1):=by rw [hw1,hw2,wrap64 _ (by omega) (by omega)]
   refine⟨fun e4=> ?_,fun e4=> ?_⟩
   ·have h5:=of_decide_eq_true e4
    rw [hw3] at h5
    show two (clv (gridR x y z t).1) (int (gridR x y z t).2)=two (clv []) (int 2)
    unfold gridR
    rw [if_pos ⟨hxz,hyt⟩,if_pos ⟨g1,g2⟩,if_pos h5]
   ·have h5:=of_decide_eq_false e4
    rw [hw3] at h5
    have hres:two (clv (gridR x y z t).1) (int (gridR x y z t).2)=two (clv (cellsL (ivl (c0 x.q) (c1 z.q)) (ivl (c0 y.q) (c1 t.q)))) (int 0):=by
     unfold gridR
     rw [if_pos ⟨hxz,hyt⟩,if_pos ⟨g1,g2⟩,if_neg h5]
    have lx:=Zfk (c0 x.q) (c1 z.q)
    have ly:=Zfk (c0 y.q) (c1 t.q)
    refine⟨Nat,fun j=> [(4,int (c0 x.q)),(5,int (c1 z.q)),(8,int (c1 t.q)),(10,.val (.one (.row 86 0))),(11,int (c0 y.q+(j:Int)))],
     fun j=> [(86,.row 25 2 0 (CL (cellsL (ivl (c0 x.q) (c1 z.q)) ((ivl (c0 y.q) (c1 t.q)).take j))) true)],
     fun j=>j≤(ivl (c0 y.q) (c1 t.q)).length,fun j=>(ivl (c0 y.q) (c1 t.q)).length - j,0,?_,Nat.zero_le _,fun j hj=> ?_⟩
    ·constructor<;>(repeat' (first|exact rfl|exact True.intro|exact⟨_,_,rfl⟩|exact(by decide:0< 2)|apply And.intro))
     all_goals exact congrArg (fun n:Int=>D.v (.int .i64 n)) (show c0 y.q+((0:Nat):Int)=c0 y.q by omega)
    refine⟨fun e5=> ?_,fun e5=> ?_⟩
    ·have h6:=of_decide_eq_true e5
     have hjl:j< (c1 t.q - c0 y.q+1).toNat:=by omega
     have hat:=ZjN hjl
     refine⟨Nat,fun i=> [(4,int (c0 x.q)),(5,int (c1 z.q)),(8,int (c1 t.q)),(10,.val (.one (.row 86 0))),(11,int (c0 y.q+(j:Int))),(12,int (c0 x.q+(i:Int)))],
      fun i=> [(86,.row 25 2 0 (CL (cellsL (ivl (c0 x.q) (c1 z.q)) ((ivl (c0 y.q) (c1 t.q)).take j)++rowC (ivl (c0 x.q) (c1 z.q)) (c0 y.q+(j:Int)) i)) true)],
      fun i=>i≤(ivl (c0 x.q) (c1 z.q)).length,fun i=>(ivl (c0 x.q) (c1 z.q)).length - i,0,?_,Nat.zero_le _,fun i hi=> ?_⟩
     ·constructor<;>(repeat' (first|exact rfl|exact True.intro|apply And.intro))
      all_goals first
       |exact congrArg (fun n:Int=>D.v (.int .i64 n)) (show c0 x.q+((0:Nat):Int)=c0 x.q by omega)
       |exact congrArg CL (List.append_nil _)
     have hpl:=Zi3 (ivl (c0 x.q) (c1 z.q)) (ivl (c0 y.q) (c1 t.q)) (c0 y.q+(j:Int)) i j p4 r4
     refine⟨fun e6=> ?_,fun e6=> ?_⟩
     ·have h7:=of_decide_eq_true e6
      have hil:i< (c1 z.q - c0 x.q+1).toNat:=by omega
      have hati:=ZjN hil
      refine⟨⟨fun row hrow=>by rw [List.mem_singleton.1 hrow];rfl,?_,?_⟩,?_⟩
      ·show ((CL (cellsL (ivl (c0 x.q) (c1 z.q)) ((ivl (c0 y.q) (c1 t.q)).take j)++rowC (ivl (c0 x.q) (c1 z.q)) (c0 y.q+(j:Int)) i)).length+1)*16≤_
       omega
      ·show (CL (cellsL (ivl (c0 x.q) (c1 z.q)) ((ivl (c0 y.q) (c1 t.q)).take j)++rowC (ivl (c0 x.q) (c1 z.q)) (c0 y.q+(j:Int)) i)).length+1≤_
       omega
      refine⟨i+1,by simp only;omega,by simp only;omega,?_⟩
      constructor<;>(repeat' (first|exact rfl|exact True.intro|apply And.intro))
      all_goals first
       |exact congrArg (fun n:Int=>D.v (.int .i64 n)) (show c0 x.q+((i+1:Nat):Int)=IntKind.i64.wrap (c0 x.q+(i:Int)+1) by rw [wrap64 _ (by omega) (by omega)];omega)
       |(rw [ZhA hati,← List.append_assoc,Zll];exact rfl)
     ·have h7:=of_decide_eq_false e6
      have hil:(ivl (c0 x.q) (c1 z.q)).length≤i:=by omega
      refine⟨j+1,by simp only;omega,by simp only;omega,?_⟩
      constructor<;>(repeat' (first|exact rfl|exact True.intro|apply And.intro))
      all_goals first
       |exact congrArg (fun n:Int=>D.v (.int .i64 n)) (show c0 y.q+((j+1:Nat):Int)=IntKind.i64.wrap (c0 y.q+(j:Int)+1) by rw [wrap64 _ (by omega) (by omega)];omega)
       |(rw [Zfs hat,ZiV hil])
    ·have h6:=of_decide_eq_false e5
     have hjl:(ivl (c0 y.q) (c1 t.q)).length≤j:=by omega
     refine Eq.trans hres ?_
     refine Eq.trans (b:=two (clv (cellsL (ivl (c0 x.q) (c1 z.q)) ((ivl (c0 y.q) (c1 t.q)).take j))) (int 0)) ?_ rfl
     rw [List.take_of_length_le hjl]
  ·refine⟨fun _=> ?_,fun e=>by simp at e⟩
   exact far ⟨hxz,hyt⟩ (fun h=>g2 h.2)
 ·by_cases g2:inG y.q t.q
  ·refine Zbr (by omega) (by omega) hyt (fun g2=> ?_) (fun g3=>absurd g2 g3)
   refine⟨fun _=> ?_,fun e=>by simp at e⟩
   exact far ⟨hxz,hyt⟩ (fun h=>g1 h.1)
  ·refine Zbr (by omega) (by omega) hyt (fun g3=>absurd g3 g2) (fun g3 a b=> ?_)
   refine⟨fun _=> ?_,fun e=>by simp at e⟩
   exact far ⟨hxz,hyt⟩ (fun h=>g1 h.1)
end
end Go.Proofs.YtcogfmileelkeaaDoor.eng
namespace Go.Proofs.YtcogfmileelkeaaDoor.eng
open Go.RowKit num mem seg q held ratA ratB ratC ratD ratE vars ratF natC natD natI
section
variable {x y z t : RV} {K : AV → Prop}
theorem Zlk {l:List (Int×Int)} {i:Nat} {c:Int×Int} (h:l[i]? =some c):(CL l)[i]? =some [D.v (.int .i64 c.1),D.v (.int .i64 c.2)]:=by simp [CL,h]
theorem Zbh (l:List (Int×Int)) (hn:l.length≤1099511627776):Spec Tryd.prog Tab 13 [clv l,clv l] (bool true):=by
 have hl:(CL l).length=l.length:=by unfold CL;rw [List.length_map]
 refine Zn Tryd.func13 rfl rfl Tryd.ntmps13 rfl (by kernel_rfl) rfl rfl ?_
 refine⟨fun e=>absurd (show ((((CL l).length:Nat):Int) !=(((CL l).length:Nat):Int))=true from e) (by simp),fun _=> ?_⟩
 refine⟨Nat,fun i=> [(0,clv l),(1,clv l),(12,int ((l.length:Nat):Int)),(13,int (i:Int))],fun _=> [],fun i=>i≤l.length,fun i=>l.length - i,0,?_,Nat.zero_le _,fun i hi=> ?_⟩
 ·constructor<;>(repeat' (first|exact rfl|exact True.intro|apply And.intro))
  all_goals exact congrArg (fun n:Nat=>D.v (.int .i64 (n:Int))) hl.symm
 refine⟨fun e=> ?_,fun e=> ?_⟩
 ·have h1:=of_decide_eq_true e
  have hil:i< l.length:=by omega
  obtain⟨c,hc⟩:∃ c,l[i]? =some c:=⟨_,List.getElem?_eq_getElem hil⟩
  refine k_at [D.v (.int .i64 c.1),D.v (.int .i64 c.2)] (Int.natCast_nonneg _) (by rw [Int.toNat_natCast];exact Zlk hc) rfl ?_
  refine k_at [D.v (.int .i64 c.1),D.v (.int .i64 c.2)] (Int.natCast_nonneg _) (by rw [Int.toNat_natCast];exact Zlk hc) rfl ?_
  refine ZbS ⟨rfl,rfl⟩ ?_
  refine⟨by kernel_rfl,?_⟩
  refine⟨fun e=>by simp at e,fun _=> ?_⟩
  refine⟨i+1,by simp only;omega,by simp only;omega,?_⟩
  constructor<;>(repeat' (first|exact rfl|exact True.intro|apply And.intro))
  all_goals exact congrArg (fun n:Int=>D.v (.int .i64 n)) (show ((i+1:Nat):Int)=IntKind.i64.wrap ((i:Int)+1) by rw [wrap64 _ (by omega) (by omega)];omega)
 ·exact rfl
theorem ZgY:gridR z0 z0 z0 z0=([(-1,-1),(0,-1),(-1,0),(0,0)],0):=by
 have h1:bxOk z0 z0 z0 z0:=⟨Rat.le_refl,Rat.le_refl⟩
 have h2:inG z0.q z0.q:=by rw [z0_q];decide+kernel
 have h3:c0 z0.q=-1:=by rw [z0_q];decide+kernel
 have h4:c1 z0.q=0:=by rw [z0_q];decide+kernel
 unfold gridR
 rw [if_pos h1,if_pos ⟨h2,h2⟩,h3,h4]
 decide
theorem Zlq (hx:x.z≤1099511627776) (hy:y.z≤1099511627776) (hz:z.z≤1099511627776) (ht:t.z≤1099511627776) (r:List (Int×Int)×Int) (hr:gridR x y z t=r) (k:K (two (clv r.1) (int r.2))):Ask 18 [box x y z t] K:=by
 subst hr;exact use (Zjk x y z t hx hy hz ht) rfl k
theorem ZcR:Spec Tryd.prog Tab 4 [] (bool true):=by
 refine Zn Tryd.func4 rfl rfl Tryd.ntmps4 rfl (by kernel_rfl) rfl rfl ?_
 have hz0:z0.z≤1099511627776:=by rw [z0_z];omega
 refine Zlq (x:=z0) (y:=z0) (z:=z0) (t:=z0) hz0 hz0 hz0 hz0 _ ZgY ?_
 refine k_at [D.v (.int .i64 (-1)),D.v (.int .i64 (-1))] (by decide) rfl rfl ?_
 refine ZbT ⟨rfl,rfl⟩ ?_
 exact rfl
end
end Go.Proofs.YtcogfmileelkeaaDoor.eng
