/- Joined by wip/bundle.py: XEngGrid XEngGrid2 XEngGrid3. -/
import Derived.Test.YtgkofgfiifgioaaGreatDoorQGrpA
set_option maxHeartbeats 4000000
set_option maxRecDepth 100000
namespace Go.Proofs.YtgkofgfiifgioaaGreatDoor.eng
open Go.RowKit num mem seg q held ratA ratB ratC ratD ratE vars ratF natC natD natI
section
variable {x y z t : RV} {K : AV → Prop}
def one3 (a b:Int) (c:Bool):AV:= .tup [.one (.d (.v (.int .i64 a))),.one (.d (.v (.int .i64 b))),.one (.d (.v (.bool c)))]
theorem Zp1 (n:Int):Spec Tryz.prog Tab 166 [int n] (bool (decide (-64≤n∧n< 64))):=by
 refine Zh Tryz.func166 rfl rfl Tryz.ntmps166 rfl ωr rfl rfl ?_
 refine fork (fun e=> ?_) (fun e=> ?_)
 ·refine Eq.trans (b:=bool (decide (n< 64))) ?_ rfl
  have h:=of_decide_eq_true e
  congr 1
  rw [decide_eq_decide];omega
 ·refine Eq.trans (b:=bool false) ?_ rfl
  have h:=of_decide_eq_false e
  rw [decide_eq_false ω]
theorem k_on (n:Int) (k:∀ b,b=decide (-64≤n∧n< 64)→K (bool b)):Ask 166 [int n] K:=use (Zp1 n) rfl (k _ rfl)
def c0 (p:Rat):Int:=-(-p).floor - 1
def c1 (q:Rat):Int:=q.floor
def inG (p q:Rat):Prop:=((-64:Int):Rat)< p∧q< ((64:Int):Rat)
instance (p q:Rat):Decidable (inG p q):=by unfold inG;infer_instance
theorem ZiF {q:Rat}:flE q=0↔q.floor.natAbs≤9223372036854775807:=by
 unfold flE intE;split<;>simp<;>omega
theorem ZiE {q:Rat} (h:flE q=0):flV q=q.floor:=by
 have h:=ZiF.1 h
 unfold flV intV
 rw [if_pos h]
 split<;>omega
theorem ZlY (q:Rat):-9223372036854775807≤flV q∧flV q≤9223372036854775807:=by
 have:=Zej q.floor.natAbs
 unfold flV;split<;>omega
theorem Zq1 (p:Rat):-64≤c0 p↔((-64:Int):Rat)< p:=by
 unfold c0
 have h:=@Rat.floor_lt_iff (-p) 64
 constructor
 ·intro h1
  have:=h.1 ω
  have e:((64:Int):Rat)=64:=rfl
  have e2:((-64:Int):Rat)=-64:=rfl
  rw [e] at this;rw [e2];grind
 ·intro h1
  have e:((64:Int):Rat)=64:=rfl
  have e2:((-64:Int):Rat)=-64:=rfl
  rw [e2] at h1
  have:=h.2 (by rw [e];grind)
  omega
theorem Zq0 (q:Rat):c1 q< 64↔q< ((64:Int):Rat):=Rat.floor_lt_iff
theorem Zcf {p q:Rat} (h:p≤q):c0 p≤c1 q:=by
 unfold c0 c1
 have h1:((-(-p).floor - 1:Int):Rat)≤q:=by
  have h2:=@Rat.floor_lt_iff (-p) ((-p).floor+1)
  have h3:=h2.1 ω
  have e:((-(-p).floor - 1:Int):Rat)=-(((-p).floor+1:Int):Rat):=by
   rw [← Rat.intCast_neg];congr 1;omega
  rw [e];grind
 exact Rat.le_floor_iff.2 h1
theorem Zks {p q:Rat} (h:p≤q):(((-64≤c0 p∧c0 p< 64)∧(-64≤c1 q∧c1 q< 64))↔inG p q):=by
 have h1:=Zcf h
 have h2:=Zq1 p
 have h3:=Zq0 q
 unfold inG
 constructor
 ·rintro⟨⟨a,_⟩,_,b⟩;exact⟨h2.1 a,h3.1 b⟩
 ·rintro⟨a,b⟩
  have a':=h2.2 a
  have b':=h3.2 b
  omega
theorem Zm0 {p q:Rat} (h:p≤q) (hg:inG p q):flE q=0∧flE (-p)=0:=by
 have h1:=Zcf h
 have h2:=(Zq1 p).2 hg.1
 have h3:=(Zq0 q).2 hg.2
 unfold c0 at h1 h2
 unfold c1 at h1 h3
 constructor<;>(rw [ZiF];omega)
theorem ZgU (x y:RV) (hx:x.z≤1099511627776) (hy:y.z≤1099511627776) (hle:x.q≤y.q) (hg:inG x.q y.q):Spec Tryz.prog Tab 92 [rat x,rat y] (one3 (c0 x.q) (c1 y.q) true):=by
 obtain⟨z1,z2⟩:=Zm0 hle hg
 obtain⟨⟨g1,g2⟩,g3,g4⟩:=(Zks hle).2 hg
 refine Zh Tryz.func92 rfl rfl Tryz.ntmps92 rfl ωr rfl rfl ?_
 refine Ze1 ω fun v e hv he=> ?_
 refine ZbG ω fun p hp zp=> ?_
 refine Ze1 ω fun v2 e2 hv2 he2=> ?_
 rw [cn_q,hp] at hv2 he2
 rw [ZiE z1] at hv
 rw [ZiE z2] at hv2
 have hw:IntKind.i64.wrap (IntKind.i64.wrap (0 - v2) - 1)=c0 x.q:=by
  have hc:c0 x.q=-v2 - 1:=by rw [hv2];rfl
  rw [wrap64 (0 - v2) ω ω,wrap64 _ ω ω];omega
 have hv':v=c1 y.q:=hv
 refine fork (fun _=> ?_) (fun e5=>absurd (show (e==0)=false from e5) (by rw [he,z1];decide))
 refine fork (fun _=> ?_) (fun e5=>absurd (show (e2==0)=false from e5) (by rw [he2,z2];decide))
 refine k_on _ fun b1 h1=> ?_
 have h1':b1=true:=by rw [h1,hw];exact decide_eq_true ⟨g1,g2⟩
 subst h1'
 refine k_on v fun b2 h2=> ?_
 have h2':b2=true:=by rw [h2,hv'];exact decide_eq_true ⟨g3,g4⟩
 subst h2'
 refine Eq.trans (b:=one3 (IntKind.i64.wrap (IntKind.i64.wrap (0 - v2) - 1)) v true) ?_ rfl
 rw [hv',hw]
theorem ZgV (x y:RV) (hx:x.z≤1099511627776) (hy:y.z≤1099511627776) (hle:x.q≤y.q) (hg:¬ inG x.q y.q):∃ a b,Spec Tryz.prog Tab 92 [rat x,rat y] (one3 a b false):=by
 refine⟨IntKind.i64.wrap (IntKind.i64.wrap (0 - flV (-x.q)) - 1),flV y.q,?_⟩
 refine Zh Tryz.func92 rfl rfl Tryz.ntmps92 rfl ωr rfl rfl ?_
 refine Ze1 ω fun v e hv he=> ?_
 refine ZbG ω fun p hp zp=> ?_
 refine Ze1 ω fun v2 e2 hv2 he2=> ?_
 rw [cn_q,hp] at hv2 he2
 have fin:∀ b:Bool,b=false→one3 (IntKind.i64.wrap (IntKind.i64.wrap (0 - flV (-x.q)) - 1)) (flV y.q) false=one3 (IntKind.i64.wrap (IntKind.i64.wrap (0 - v2) - 1)) v b:=fun b hb=>by rw [hb,hv,hv2]
 refine fork (fun e5=> ?_) (fun _=>fin false rfl)
 have z1:flE y.q=0:=by rw [← he];exact eq_of_beq e5
 refine fork (fun e6=> ?_) (fun _=>fin false rfl)
 have z2:flE (-x.q)=0:=by rw [← he2];exact eq_of_beq e6
 have r2:=ZlY (-x.q)
 have hw:IntKind.i64.wrap (IntKind.i64.wrap (0 - v2) - 1)=c0 x.q:=by
  have hc:c0 x.q=-v2 - 1:=by rw [hv2,ZiE z2];rfl
  rw [← hv2] at r2
  rw [wrap64 (0 - v2) ω ω,wrap64 _ ω ω];omega
 refine k_on _ fun b1 h1=> ?_
 cases b1 with
 |false=>exact fin false rfl
 |true=>
  refine k_on v fun b2 h2=> ?_
  refine fin b2 ?_
  rw [h2]
  refine decide_eq_false fun h3=>hg ((Zks hle).1 ⟨?_,?_⟩)
  ·have:=of_decide_eq_true h1.symm
   rw [hw] at this;exact this
  ·rw [hv,ZiE z1] at h3;exact h3
theorem Zb7 (hx:x.z≤1099511627776) (hy:y.z≤1099511627776) (hle:x.q≤y.q) (k1:inG x.q y.q→K (one3 (c0 x.q) (c1 y.q) true)) (k0:¬ inG x.q y.q→∀ a b,K (one3 a b false)):Ask 92 [rat x,rat y] K:=by
 by_cases h:inG x.q y.q
 ·exact use (ZgU x y hx hy hle h) rfl (k1 h)
 ·obtain⟨a,b,hs⟩:=ZgV x y hx hy hle h
  exact use hs rfl (k0 h a b)
def bxOk (x y z t:RV):Prop:=x.q≤z.q∧y.q≤t.q
end
def CL (l:List (Int×Int)):List (List D):=l.map fun c=> [D.v (.int .i64 c.1),D.v (.int .i64 c.2)]
def clv (l:List (Int×Int)):AV:= .val (.one (.d (.list (CL l))))
def ivl (a b:Int):List Int:=(List.range (b - a+1).toNat).map fun i:Nat=>a+(i:Int)
theorem Zhr (a b:Int):(ivl a b).length=(b - a+1).toNat:=by simp [ivl]
theorem ZoZ {a b:Int} {i:Nat} (h:i< (b - a+1).toNat):(ivl a b)[i]? =some (a+(i:Int)):=by
 unfold ivl
 rw [List.getElem?_map,List.getElem?_range h];rfl
section
variable {x y z t : RV} {K : AV → Prop}
end
def cellsL (xs ys:List Int):List (Int×Int):=ys.flatMap fun v=>xs.map fun u=>(u,v)
def rowC (xs:List Int) (v:Int) (i:Nat):List (Int×Int):=(xs.take i).map fun u=>(u,v)
theorem Zs4 (l m:List (Int×Int)):CL (l++m)=CL l++CL m:=by simp [CL]
theorem ZjT (xs ys:List Int):(cellsL xs ys).length=ys.length*xs.length:=by
 unfold cellsL
 induction ys with
 |nil=>simp
 |cons v ys ih=>rw [List.flatMap_cons,List.length_append,ih,List.length_map,List.length_cons,Nat.add_mul,Nat.one_mul,Nat.add_comm]
theorem ZkB {xs:List Int} {v u:Int} {i:Nat} (h:xs[i]? =some u):rowC xs v (i+1)=rowC xs v i++ [(u,v)]:=by
 unfold rowC
 rw [List.take_add_one,h];simp
theorem Zng {xs:List Int} {v:Int} {i:Nat} (h:xs.length≤i):rowC xs v i=xs.map fun u=>(u,v):=by unfold rowC;rw [List.take_of_length_le h]
theorem ZhD {xs ys:List Int} {v:Int} {j:Nat} (h:ys[j]? =some v):cellsL xs (ys.take (j+1))=cellsL xs (ys.take j)++xs.map fun u=>(u,v):=by
 unfold cellsL
 rw [List.take_add_one,h,List.flatMap_append];simp
theorem Znf (xs:List Int) (v:Int) (i:Nat):(rowC xs v i).length≤xs.length:=by unfold rowC;rw [List.length_map,List.length_take];omega
theorem Znw (xs ys:List Int) (v:Int) (i j:Nat) (hx:xs.length≤128) (hy:ys.length≤128):(CL (cellsL xs (ys.take j)++rowC xs v i)).length≤32768:=by
 have h1:=Znf xs v i
 have h2:(ys.take j).length*xs.length≤128*128:=Nat.mul_le_mul (by rw [List.length_take];omega) hx
 unfold CL
 rw [List.length_map,List.length_append,ZjT];omega
section
variable {x y z t : RV} {K : AV → Prop}
instance (x y z t:RV):Decidable (bxOk x y z t):=by unfold bxOk;infer_instance
def gridR (x y z t:RV):List (Int×Int)×Int:=
 if bxOk x y z t then (if inG x.q z.q∧inG y.q t.q then (if (c1 z.q - c0 x.q+1)*(c1 t.q - c0 y.q+1) >400 then ([],2) else (cellsL (ivl (c0 x.q) (c1 z.q)) (ivl (c0 y.q) (c1 t.q)),0)) else ([],17)) else ([],1)
theorem ZoY {p q:Rat} (h:p≤q) (hg:inG p q):-64≤c0 p∧c1 q< 64∧c0 p≤c1 q∧(ivl (c0 p) (c1 q)).length≤128:=by
 have h1:=(Zq1 p).2 hg.1
 have h2:=(Zq0 q).2 hg.2
 have h3:=Zcf h
 rw [Zhr];omega
theorem ZnY (x y z t:RV) (hx:x.z≤1099511627776) (hy:y.z≤1099511627776) (hz:z.z≤1099511627776) (ht:t.z≤1099511627776):Spec Tryz.prog Tab 34 [box x y z t] (two (clv (gridR x y z t).1) (int (gridR x y z t).2)):=by
 have bad:¬ bxOk x y z t→two (clv (gridR x y z t).1) (int (gridR x y z t).2)=two (clv []) (int 1):=fun h=>by unfold gridR;rw [if_neg h]
 have far:bxOk x y z t→¬ (inG x.q z.q∧inG y.q t.q)→two (clv (gridR x y z t).1) (int (gridR x y z t).2)=two (clv []) (int 17):=fun h h2=>by unfold gridR;rw [if_pos h,if_neg h2]
 refine Zh Tryz.func34 rfl rfl Tryz.ntmps34 rfl ωr rfl rfl ?_
 refine ZcO ω ω fun n1 h1=> ?_
 refine fork (fun e1=> ?_) (fun e1=> ?_)
 ·have hlt:=(ZbM _ _).1 (by rw [← h1];exact of_decide_eq_true e1)
  refine⟨fun _=> ?_,fun e=>by simp at e⟩
  exact bad (fun h=>absurd h.1 (Rat.not_le.2 hlt))
 have hxz:x.q≤z.q:=Rat.not_lt.1 (fun h=>of_decide_eq_false e1 (by rw [h1];exact(ZbM _ _).2 h))
 refine ZcO ω ω fun n2 h2=> ?_
 refine⟨fun e2=> ?_,fun e2=> ?_⟩
 ·have hlt:=(ZbM _ _).1 (by rw [← h2];exact of_decide_eq_true e2)
  exact bad (fun h=>absurd h.2 (Rat.not_le.2 hlt))
 have hyt:y.q≤t.q:=Rat.not_lt.1 (fun h=>of_decide_eq_false e2 (by rw [h2];exact(ZbM _ _).2 h))
 refine Zb7 ω ω hxz (fun g1=> ?_) (fun g1 a b=> ?_)
 ·refine Zb7 ω ω hyt (fun g2=> ?_) (fun g2 a b=> ?_)
  ·obtain⟨p1,p2,p3,p4⟩:=ZoY hxz g1
   obtain⟨r1,r2,r3,r4⟩:=ZoY hyt g2
   refine⟨fun e=>by simp at e,fun _=> ?_⟩
   have hw1:IntKind.i64.wrap (IntKind.i64.wrap (c1 z.q - c0 x.q)+1)=c1 z.q - c0 x.q+1:=by rw [wrap64 (c1 z.q - c0 x.q) ω ω,wrap64 _ ω ω]
   have hw2:IntKind.i64.wrap (IntKind.i64.wrap (c1 t.q - c0 y.q)+1)=c1 t.q - c0 y.q+1:=by rw [wrap64 (c1 t.q - c0 y.q) ω ω,wrap64 _ ω ω]
   have hm:0≤(c1 z.q - c0 x.q+1)*(c1 t.q - c0 y.q+1)∧(c1 z.q - c0 x.q+1)*(c1 t.q - c0 y.q+1)≤128*128:=⟨Int.mul_nonneg ω ω,Int.mul_le_mul ω ω ω ω⟩
   have hw3:IntKind.i64.wrap (IntKind.i64.wrap (IntKind.i64.wrap (c1 z.q - c0 x.q)+1)*IntKind.i64.wrap (IntKind.i64.wrap (c1 t.q - c0 y.q)+1))=(c1 z.q - c0 x.q+1)*(c1 t.q - c0 y.q+1):=by rw [hw1,hw2,wrap64 _ ω ω]
   refine⟨fun e4=> ?_,fun e4=> ?_⟩
   ·have h5:=of_decide_eq_true e4
    rw [hw3] at h5
    show two (clv (gridR x y z t).1) (int (gridR x y z t).2)=two (clv []) (int 2)
    unfold gridR
    rw [if_pos ⟨hxz,hyt⟩,if_pos ⟨g1,g2⟩,if_pos h5]
   ·have h5:=of_decide_eq_false e4
    rw [hw3] at h5
    have hres:two (clv (gridR x y z t).1) (int (gridR x y z t).2)=two (clv (cellsL (ivl (c0 x.q) (c1 z.q)) (ivl (c0 y.q) (c1 t.q)))) (int 0):=by
     unfold gridR
     rw [if_pos ⟨hxz,hyt⟩,if_pos ⟨g1,g2⟩,if_neg h5]
    have lx:=Zhr (c0 x.q) (c1 z.q)
    have ly:=Zhr (c0 y.q) (c1 t.q)
    refine⟨Nat,fun j=> [(4,int (c0 x.q)),(5,int (c1 z.q)),(8,int (c1 t.q)),(10,.val (.one (.row 86 0))),(11,int (c0 y.q+(j:Int)))],
     fun j=> [(86,.row 148 2 0 (CL (cellsL (ivl (c0 x.q) (c1 z.q)) ((ivl (c0 y.q) (c1 t.q)).take j))) true)],
     fun j=>j≤(ivl (c0 y.q) (c1 t.q)).length,fun j=>(ivl (c0 y.q) (c1 t.q)).length - j,0,?_,Nat.zero_le _,fun j hj=> ?_⟩
    ·constructor<;>(repeat' (first|exact rfl|exact True.intro|exact⟨_,_,rfl⟩|exact(by decide:0< 2)|apply And.intro))
     all_goals exact congrArg (fun n:Int=>D.v (.int .i64 n)) (show c0 y.q+((0:Nat):Int)=c0 y.q by omega)
    refine⟨fun e5=> ?_,fun e5=> ?_⟩
    ·have h6:=of_decide_eq_true e5
     have hjl:j< (c1 t.q - c0 y.q+1).toNat:=ω
     have hat:=ZoZ hjl
     refine⟨Nat,fun i=> [(4,int (c0 x.q)),(5,int (c1 z.q)),(8,int (c1 t.q)),(10,.val (.one (.row 86 0))),(11,int (c0 y.q+(j:Int))),(12,int (c0 x.q+(i:Int)))],
      fun i=> [(86,.row 148 2 0 (CL (cellsL (ivl (c0 x.q) (c1 z.q)) ((ivl (c0 y.q) (c1 t.q)).take j)++rowC (ivl (c0 x.q) (c1 z.q)) (c0 y.q+(j:Int)) i)) true)],
      fun i=>i≤(ivl (c0 x.q) (c1 z.q)).length,fun i=>(ivl (c0 x.q) (c1 z.q)).length - i,0,?_,Nat.zero_le _,fun i hi=> ?_⟩
     ·constructor<;>(repeat' (first|exact rfl|exact True.intro|apply And.intro))
      all_goals first
       |exact congrArg (fun n:Int=>D.v (.int .i64 n)) (show c0 x.q+((0:Nat):Int)=c0 x.q by omega)
       |exact congrArg CL (List.append_nil _)
     have hpl:=Znw (ivl (c0 x.q) (c1 z.q)) (ivl (c0 y.q) (c1 t.q)) (c0 y.q+(j:Int)) i j p4 r4
     refine⟨fun e6=> ?_,fun e6=> ?_⟩
     ·have h7:=of_decide_eq_true e6
      have hil:i< (c1 z.q - c0 x.q+1).toNat:=ω
      have hati:=ZoZ hil
      refine⟨⟨fun row hrow=>by rw [List.mem_singleton.1 hrow];rfl,?_,?_⟩,?_⟩
      ·show ((CL (cellsL (ivl (c0 x.q) (c1 z.q)) ((ivl (c0 y.q) (c1 t.q)).take j)++rowC (ivl (c0 x.q) (c1 z.q)) (c0 y.q+(j:Int)) i)).length+1)*16≤_
       omega
      ·show (CL (cellsL (ivl (c0 x.q) (c1 z.q)) ((ivl (c0 y.q) (c1 t.q)).take j)++rowC (ivl (c0 x.q) (c1 z.q)) (c0 y.q+(j:Int)) i)).length+1≤_
       omega
      refine⟨i+1,by simp only;omega,by simp only;omega,?_⟩
      constructor<;>(repeat' (first|exact rfl|exact True.intro|apply And.intro))
      all_goals first
       |exact congrArg (fun n:Int=>D.v (.int .i64 n)) (show c0 x.q+((i+1:Nat):Int)=IntKind.i64.wrap (c0 x.q+(i:Int)+1) by rw [wrap64 _ ω ω];omega)
       |(rw [ZkB hati,← List.append_assoc,Zs4];exact rfl)
     ·have h7:=of_decide_eq_false e6
      have hil:(ivl (c0 x.q) (c1 z.q)).length≤i:=ω
      refine⟨j+1,by simp only;omega,by simp only;omega,?_⟩
      constructor<;>(repeat' (first|exact rfl|exact True.intro|apply And.intro))
      all_goals first
       |exact congrArg (fun n:Int=>D.v (.int .i64 n)) (show c0 y.q+((j+1:Nat):Int)=IntKind.i64.wrap (c0 y.q+(j:Int)+1) by rw [wrap64 _ ω ω];omega)
       |(rw [ZhD hat,Zng hil])
    ·have h6:=of_decide_eq_false e5
     have hjl:(ivl (c0 y.q) (c1 t.q)).length≤j:=ω
     refine Eq.trans hres ?_
     refine Eq.trans (b:=two (clv (cellsL (ivl (c0 x.q) (c1 z.q)) ((ivl (c0 y.q) (c1 t.q)).take j))) (int 0)) ?_ rfl
     rw [List.take_of_length_le hjl]
  ·refine⟨fun _=> ?_,fun e=>by simp at e⟩
   exact far ⟨hxz,hyt⟩ (fun h=>g2 h.2)
 ·by_cases g2:inG y.q t.q
  ·refine Zb7 ω ω hyt (fun g2=> ?_) (fun g3=>absurd g2 g3)
   refine⟨fun _=> ?_,fun e=>by simp at e⟩
   exact far ⟨hxz,hyt⟩ (fun h=>g1 h.1)
  ·refine Zb7 ω ω hyt (fun g3=>absurd g3 g2) (fun g3 a b=> ?_)
   refine⟨fun _=> ?_,fun e=>by simp at e⟩
   exact far ⟨hxz,hyt⟩ (fun h=>g1 h.1)
end
