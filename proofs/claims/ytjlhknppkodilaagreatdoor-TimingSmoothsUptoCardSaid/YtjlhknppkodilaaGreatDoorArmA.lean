/- Contracts: package arm. Printed by wip/gp_arm.py. -/
import Derived.Test.YtjlhknppkodilaaGreatDoorGrpA
import Derived.Test.YtjlhknppkodilaaGreatDoorWg
import Derived.Test.YtjlhknppkodilaaGreatDoorGrpN
set_option maxRecDepth 100000
namespace Go.Proofs.YtjlhknppkodilaaGreatDoor.eng
open Go.RowKit num mem seg q held ratA ratB ratC ratD ratE vars ratF
section
variable {K : AV → Prop}
theorem ZbY {b:Bool} (h:b=true) (g:b=false):False:=by rw [h] at g;exact Bool.noConfusion g
theorem Zad {s:ByteArray}:nameOk s=true↔1≤s.size∧s.size≤12∧∀ (j:Nat) (c:UInt8),s[j]? =some c→97≤c.toNat∧c.toNat≤122:=by
 unfold nameOk
 rw [Bool.and_eq_true,Bool.and_eq_true,decide_eq_true_eq,decide_eq_true_eq,List.all_eq_true]
 have e:∀ j:Nat,s[j]? =s.data.toList[j]? :=fun j=>by
  by_cases h:j< s.size
  ·rw [getElem?_pos s j h,List.getElem?_eq_getElem (show j< s.data.toList.length from h)];rfl
  ·rw [getElem?_neg s j h,List.getElem?_eq_none (show s.data.toList.length≤j from Nat.not_lt.1 h)]
 constructor
 ·rintro⟨h1,h2,h3⟩
  refine⟨h1,h2,fun j c hc=> ?_⟩
  rw [e] at hc
  have:=h3 c (List.mem_of_getElem? hc)
  rw [Bool.and_eq_true,decide_eq_true_eq,decide_eq_true_eq] at this
  exact this
 ·rintro⟨h1,h2,h3⟩
  refine⟨h1,h2,fun c hc=> ?_⟩
  obtain⟨j,hj⟩:=List.mem_iff_getElem?.1 hc
  rw [Bool.and_eq_true,decide_eq_true_eq,decide_eq_true_eq]
  exact h3 j c (by rw [e];exact hj)
def smB (l:List RV):Bool:=l.all fun x=>decide (smallP x)
theorem ZeQ {l:List RV}:smB l=true↔∀ x,x∈l→smallP x:=by unfold smB;rw [List.all_eq_true];exact⟨fun h x hx=>of_decide_eq_true (h x hx),fun h x hx=>decide_eq_true (h x hx)⟩
theorem smB2 {x y:RV}:smB [x,y]=true↔smallP x∧smallP y:=by simp [smB]
theorem smB3 {x y z:RV}:smB [x,y,z]=true↔smallP x∧smallP y∧smallP z:=by simp [smB]
theorem smB5 {x y z u v:RV}:smB [x,y,z,u,v]=true↔smallP x∧smallP y∧smallP z∧smallP u∧smallP v:=by simp [smB]
theorem ZhG (s:ByteArray) (hs0:s.size≤1099511627776):Spec Tryz.prog Tab 79 [str s] (bool (nameOk s)):=by
 refine Zf Tryz.func79 rfl rfl Tryz.ntmps79 rfl (by kernel_rfl) rfl rfl ?_
 refine⟨Nat,fun i=> [(0,str s),(5,int (s.size:Int)),(6,int (i:Int))],
  fun i=> [],fun i=>i≤s.size∧∀ (j:Nat) (c:UInt8),j< i→s[j]? =some c→97≤c.toNat∧c.toNat≤122,fun i=>s.size - i,0,?_,⟨Nat.zero_le _,fun j c h=>absurd h (Nat.not_lt_zero _)⟩,fun i hs=> ?_⟩
 ·constructor<;>(repeat' (first|exact rfl|exact True.intro|exact⟨_,_,rfl⟩|exact(by decide)|apply And.intro))
  all_goals first|exact congrArg (fun n:Int=>D.v (.int .i64 n)) (by omega)|exact congrArg (fun n:Int=>D.v (.int .i64 n)) (by rw [wrap64 _ (by omega) (by omega)];omega)|(simp;done)
 obtain⟨hi,h1⟩:=hs
 refine⟨fun e1=> ?_,fun e1=> ?_⟩
 ·have f7:(i:Int)< (s.size:Int):=of_decide_eq_true e1
  obtain⟨b11,hb11⟩:∃ b,s[i]? =some b:=⟨_,getElem?_pos s _ (by omega)⟩
  refine Zb7 b11 (by omega) (by rw [show ((i:Int):Int).toNat=i by omega];exact hb11) ?_
  refine fork (fun e2=> ?_) (fun e2=> ?_)
  ·have f13:(b11.toNat:Int)< 97:=of_decide_eq_true e2
   refine⟨fun _=> ?_,fun e=>absurd e (by decide)⟩
   refine Eq.trans (b:=bool false) ?_ rfl
   have hno:nameOk s=false:=Bool.eq_false_iff.2 fun h=>by
    have h3:=(Zad.1 h).2.2 i
    first|(have h4:=h3 b16 hb16;omega)|(have h4:=h3 b11 hb11;omega)
   rw [hno]
  ·have f13:¬ ((b11.toNat:Int)< 97):=of_decide_eq_false e2
   obtain⟨b16,hb16⟩:∃ b,s[i]? =some b:=⟨_,getElem?_pos s _ (by omega)⟩
   refine Zb7 b16 (by omega) (by rw [show ((i:Int):Int).toNat=i by omega];exact hb16) ?_
   refine⟨fun e3=> ?_,fun e3=> ?_⟩
   ·have f18:(b16.toNat:Int) >122:=of_decide_eq_true e3
    refine Eq.trans (b:=bool false) ?_ rfl
    have hno:nameOk s=false:=Bool.eq_false_iff.2 fun h=>by
     have h3:=(Zad.1 h).2.2 i
     first|(have h4:=h3 b16 hb16;omega)|(have h4:=h3 b11 hb11;omega)
    rw [hno]
   ·have f18:¬ ((b16.toNat:Int) >122):=of_decide_eq_false e3
    refine⟨i+1,⟨by omega,fun j c g hc=>by
     by_cases e:j=i
     ·subst e;have e1:=Option.some.inj (hb11.symm.trans hc);have e2:=Option.some.inj (hb16.symm.trans hc);subst e1;subst e2;omega
     ·exact h1 j c (by omega) hc⟩,by simp only;omega,?_⟩
    constructor<;>(repeat' (first|exact rfl|exact True.intro|apply And.intro))
    all_goals first
     |exact congrArg (fun n:Int=>D.v (.int .i64 n)) (by rw [wrap64 _ (by omega) (by omega)];omega)
     |exact congrArg (fun n:Int=>D.v (.int .i64 n)) (by omega)
 ·have f7:¬ ((i:Int)< (s.size:Int)):=of_decide_eq_false e1
  refine fork (fun e4=> ?_) (fun e4=> ?_)
  ·have f23:(s.size:Int)≥1:=of_decide_eq_true e4
   refine Eq.trans (b:=bool (decide ((s.size:Int)≤12))) ?_ rfl
   have hall:∀ (j:Nat) (c:UInt8),s[j]? =some c→97≤c.toNat∧c.toNat≤122:=fun j c hc=>h1 j c (by
    have:j< s.size:=by
     refine Nat.not_le.1 fun hh=> ?_
     rw [getElem?_neg s j (Nat.not_lt.2 hh)] at hc;exact absurd hc (by simp)
    omega) hc
   have hv:nameOk s=(decide ((s.size:Int)≤12)):=by
    rw [Bool.eq_iff_iff,Zad]
    first
    |(rw [decide_eq_true_eq];exact⟨fun h=>by omega,fun h=>⟨by omega,by omega,hall⟩⟩)
    |exact⟨fun h=>by omega,fun h=>absurd h Bool.false_ne_true⟩
   rw [hv]
  ·have f23:¬ ((s.size:Int)≥1):=of_decide_eq_false e4
   refine Eq.trans (b:=bool false) ?_ rfl
   have hall:∀ (j:Nat) (c:UInt8),s[j]? =some c→97≤c.toNat∧c.toNat≤122:=fun j c hc=>h1 j c (by
    have:j< s.size:=by
     refine Nat.not_le.1 fun hh=> ?_
     rw [getElem?_neg s j (Nat.not_lt.2 hh)] at hc;exact absurd hc (by simp)
    omega) hc
   have hv:nameOk s=(false):=by
    rw [Bool.eq_iff_iff,Zad]
    first
    |(rw [decide_eq_true_eq];exact⟨fun h=>by omega,fun h=>⟨by omega,by omega,hall⟩⟩)
    |exact⟨fun h=>by omega,fun h=>absurd h Bool.false_ne_true⟩
   rw [hv]
theorem Zng {s:ByteArray} (hs0:s.size≤1099511627776) (k:K (bool (nameOk s))):Ask 79 [str s] K:=use (ZhG s hs0) rfl k
theorem ZcH (l:List RV) (hl:∀ x,x∈l→x.z≤1073741824) (hn:l.length≤1073741824):Spec Tryz.prog Tab 80 [.val (.one (.d (.list (List.map rd l))))] (bool (smB l)):=by
 have hL:(List.map rd l).length=l.length:=List.length_map ..
 refine Zf Tryz.func80 rfl rfl Tryz.ntmps80 rfl (by kernel_rfl) rfl rfl ?_
 refine⟨Nat,fun i=> [(5,.val (.one (.d (.list (List.map rd l))))),(6,int ((List.map rd l).length:Int)),(7,int (i:Int))],
  fun i=> [],fun i=>i≤l.length∧∀ (j:Nat) (x:RV),j< i→l[j]? =some x→smallP x,fun i=>l.length - i,0,?_,⟨Nat.zero_le _,fun j c h=>absurd h (Nat.not_lt_zero _)⟩,fun i hs=> ?_⟩
 ·constructor<;>(repeat' (first|exact rfl|exact True.intro|exact⟨_,_,rfl⟩|exact(by decide)|apply And.intro))
  all_goals first|exact congrArg (fun n:Int=>D.v (.int .i64 n)) (by omega)|exact congrArg (fun n:Int=>D.v (.int .i64 n)) (by rw [wrap64 _ (by omega) (by omega)];omega)|(simp;done)
 obtain⟨hi,h1⟩:=hs
 refine⟨fun e1=> ?_,fun e1=> ?_⟩
 ·have f8:(i:Int)< ((List.map rd l).length:Int):=of_decide_eq_true e1
  obtain⟨x9,hx9⟩:∃ vv,l[i]? =some vv:=⟨_,List.getElem?_eq_getElem (by first|omega|exact Nat.mod_lt _ (by omega))⟩
  have hzx9:=hl x9 (List.mem_of_getElem? hx9)
  refine k_ix i [D.v (.bool x9.s),D.v (.string x9.a),D.v (.string x9.d)] (by first|rfl|omega|(rw [wrap64 _ (by omega) (by omega)];omega)) (Zm hx9) rfl ?_
  refine ZoA (x:=x9) (by omega) ?_
  refine⟨fun e2=> ?_,fun e2=> ?_⟩
  ·have f13:¬ (smallP x9):=of_decide_eq_false (ZcO e2)
   refine Eq.trans (b:=bool false) ?_ rfl
   rw [show smB l=false from Bool.eq_false_iff.2 fun h=>f13 (ZeQ.1 h x9 (List.mem_of_getElem? hx9))]
  ·have f13:¬ (¬ (smallP x9)):=fun hh=>hh (of_decide_eq_true (ZcP e2))
   have f12:smallP x9:=Classical.byContradiction fun hh=>f13 hh
   refine⟨i+1,⟨by omega,fun j c g hc=>by
    by_cases e:j=i
    ·subst e;rw [hx9] at hc;obtain rfl:=Option.some.inj hc;exact f12
    ·exact h1 j c (by omega) hc⟩,by simp only;omega,?_⟩
   constructor<;>(repeat' (first|exact rfl|exact True.intro|apply And.intro))
   all_goals first
    |exact congrArg (fun n:Int=>D.v (.int .i64 n)) (by rw [wrap64 _ (by omega) (by omega)];omega)
    |exact congrArg (fun n:Int=>D.v (.int .i64 n)) (by omega)
 ·have f8:¬ ((i:Int)< ((List.map rd l).length:Int)):=of_decide_eq_false e1
  refine Eq.trans (b:=bool true) ?_ rfl
  rw [show smB l=true from ZeQ.2 fun x hx=>by
   obtain⟨j,hj⟩:=List.mem_iff_getElem?.1 hx
   exact h1 j x (by have:=(List.getElem?_eq_some_iff.1 hj).1;omega) hj]
set_option maxHeartbeats 1000000 in
theorem Zhz (l:LinkV) (hl:l.len.z≤67108864∧l.low.z≤67108864∧l.high.z≤67108864∧l.speed.z≤67108864∧l.brake.z≤67108864∧l.shape.length≤67108864∧∀ p,p∈l.shape→p.1.z≤67108864∧p.2.z≤67108864):Spec Tryz.prog Tab 81 [.val (.agg [.d (.v (.bool l.len.s)),.d (.v (.string l.len.a)),.d (.v (.string l.len.d)),.d (.v (.bool l.low.s)),.d (.v (.string l.low.a)),.d (.v (.string l.low.d)),.d (.v (.bool l.high.s)),.d (.v (.string l.high.a)),.d (.v (.string l.high.d)),.d (.v (.bool l.speed.s)),.d (.v (.string l.speed.a)),.d (.v (.string l.speed.d)),.d (.v (.bool l.brake.s)),.d (.v (.string l.brake.a)),.d (.v (.string l.brake.d)),.d (.list (List.map rdv l.shape))])] (int (linkE l)):=by
 obtain⟨z1,z2,z3,z4,z5,z6,z7⟩:=hl
 have hL:(List.map rdv l.shape).length=l.shape.length:=List.length_map ..
 refine Zf Tryz.func81 rfl rfl Tryz.ntmps81 rfl (by kernel_rfl) rfl rfl ?_
 refine use (ZcH [l.len,l.low,l.high,l.speed,l.brake] (by intro x hx;simp only [List.mem_cons,List.not_mem_nil,or_false] at hx;rcases hx with rfl|rfl|rfl|rfl|rfl<;>omega) (by simp)) rfl ?_
 refine fork (fun e1=> ?_) (fun e1=> ?_)
 ·have f19:¬ (smallP l.len∧smallP l.low∧smallP l.high∧smallP l.speed∧smallP l.brake):=fun hh=>ZbY (smB5.2 hh) (ZcO e1)
  refine⟨fun _=> ?_,fun e=>absurd e (by decide)⟩
  refine Eq.trans (b:=int 1) ?_ rfl
  have hB:linkBad l:=by
   refine Classical.byContradiction fun hh=> ?_
   simp only [linkBad,not_or,Classical.not_not] at hh
   obtain⟨g1,g2,g3,g4,g5,g6,g7,g8,g9⟩:=hh
   first|exact f19 ⟨g1,g2,g3,g4,g5⟩|exact g6 f25|exact g7 f32|exact g8 f37|exact g9 f42
  rw [show linkE l=1 from if_pos hB]
 ·have f19:¬ (¬ (smallP l.len∧smallP l.low∧smallP l.high∧smallP l.speed∧smallP l.brake)):=fun hh=>hh (smB5.1 (ZcP e1))
  refine Zc5 (x:=l.len) (by omega) fun n22 h22=> ?_
  refine fork (fun e2=> ?_) (fun e2=> ?_)
  ·have f25:l.len.q≤0:=(ZN h22).1 (of_decide_eq_true e2)
   refine⟨fun _=> ?_,fun e=>absurd e (by decide)⟩
   refine Eq.trans (b:=int 1) ?_ rfl
   have hB:linkBad l:=by
    refine Classical.byContradiction fun hh=> ?_
    simp only [linkBad,not_or,Classical.not_not] at hh
    obtain⟨g1,g2,g3,g4,g5,g6,g7,g8,g9⟩:=hh
    first|exact f19 ⟨g1,g2,g3,g4,g5⟩|exact g6 f25|exact g7 f32|exact g8 f37|exact g9 f42
   rw [show linkE l=1 from if_pos hB]
  ·have f25:¬ (l.len.q≤0):=fun hh=>of_decide_eq_false e2 ((ZN h22).2 hh)
   refine Zlj (x:=l.low) (y:=l.high) (by omega) (by omega) fun n30 h30=> ?_
   refine⟨fun e3=> ?_,fun e3=> ?_⟩
   ·have f32:l.high.q≤l.low.q:=(ZpL h30).1 (of_decide_eq_true e3)
    refine Eq.trans (b:=int 1) ?_ rfl
    have hB:linkBad l:=by
     refine Classical.byContradiction fun hh=> ?_
     simp only [linkBad,not_or,Classical.not_not] at hh
     obtain⟨g1,g2,g3,g4,g5,g6,g7,g8,g9⟩:=hh
     first|exact f19 ⟨g1,g2,g3,g4,g5⟩|exact g6 f25|exact g7 f32|exact g8 f37|exact g9 f42
    rw [show linkE l=1 from if_pos hB]
   ·have f32:¬ (l.high.q≤l.low.q):=fun hh=>of_decide_eq_false e3 ((ZpL h30).2 hh)
    refine Zc5 (x:=l.speed) (by omega) fun n35 h35=> ?_
    refine fork (fun e4=> ?_) (fun e4=> ?_)
    ·have f37:l.speed.q≤0:=(ZN h35).1 (of_decide_eq_true e4)
     refine⟨fun _=> ?_,fun e=>absurd e (by decide)⟩
     refine Eq.trans (b:=int 1) ?_ rfl
     have hB:linkBad l:=by
      refine Classical.byContradiction fun hh=> ?_
      simp only [linkBad,not_or,Classical.not_not] at hh
      obtain⟨g1,g2,g3,g4,g5,g6,g7,g8,g9⟩:=hh
      first|exact f19 ⟨g1,g2,g3,g4,g5⟩|exact g6 f25|exact g7 f32|exact g8 f37|exact g9 f42
     rw [show linkE l=1 from if_pos hB]
    ·have f37:¬ (l.speed.q≤0):=fun hh=>of_decide_eq_false e4 ((ZN h35).2 hh)
     refine Zc5 (x:=l.brake) (by omega) fun n40 h40=> ?_
     refine⟨fun e5=> ?_,fun e5=> ?_⟩
     ·have f42:l.brake.q≤0:=(ZN h40).1 (of_decide_eq_true e5)
      refine Eq.trans (b:=int 1) ?_ rfl
      have hB:linkBad l:=by
       refine Classical.byContradiction fun hh=> ?_
       simp only [linkBad,not_or,Classical.not_not] at hh
       obtain⟨g1,g2,g3,g4,g5,g6,g7,g8,g9⟩:=hh
       first|exact f19 ⟨g1,g2,g3,g4,g5⟩|exact g6 f25|exact g7 f32|exact g8 f37|exact g9 f42
      rw [show linkE l=1 from if_pos hB]
     ·have f42:¬ (l.brake.q≤0):=fun hh=>of_decide_eq_false e5 ((ZN h40).2 hh)
      refine Zne (l:=l.shape) (by assumption) (by omega) (fun n45 hk_45_1=> ?_)
      refine⟨fun e6=> ?_,fun e6=> ?_⟩
      ·have f47:n45≠0:=Zay e6
       refine Eq.trans (b:=int n45) ?_ rfl
       have hsm5:=Classical.not_not.1 f19
       have hB:¬ linkBad l:=by
        rintro(h|h|h|h|h|h|h|h|h)
        all_goals first|exact h hsm5.1|exact h hsm5.2.1|exact h hsm5.2.2.1|exact h hsm5.2.2.2.1|exact h hsm5.2.2.2.2|exact f25 h|exact f32 h|exact f37 h|exact f42 h
       rw [show linkE l=n45 by rw [linkE,if_neg hB,if_neg (by rw [← hk_45_1];exact f47),hk_45_1]]
      ·have f47:¬ (n45≠0):=fun hh=>hh (Zaz e6)
       refine⟨Nat,fun i=> [(50,.val (.one (.d (.list (List.map rdv l.shape))))),(51,int ((List.map rdv l.shape).length:Int)),(52,int (i:Int))],
        fun i=> [],fun i=>i≤l.shape.length∧∀ (j:Nat) (p:RV×RV),j< i→l.shape[j]? =some p→smallP p.1∧smallP p.2,fun i=>l.shape.length - i,0,?_,⟨Nat.zero_le _,fun j c h=>absurd h (Nat.not_lt_zero _)⟩,fun i hs=> ?_⟩
       ·constructor<;>(repeat' (first|exact rfl|exact True.intro|exact⟨_,_,rfl⟩|exact(by decide)|apply And.intro))
        all_goals first|exact congrArg (fun n:Int=>D.v (.int .i64 n)) (by omega)|exact congrArg (fun n:Int=>D.v (.int .i64 n)) (by rw [wrap64 _ (by omega) (by omega)];omega)|(simp;done)
       obtain⟨hi,h1⟩:=hs
       refine⟨fun e7=> ?_,fun e7=> ?_⟩
       ·have f53:(i:Int)< ((List.map rdv l.shape).length:Int):=of_decide_eq_true e7
        obtain⟨x54,hx54⟩:∃ vv,l.shape[i]? =some vv:=⟨_,List.getElem?_eq_getElem (by first|omega|exact Nat.mod_lt _ (by omega))⟩
        have hzx54:=z7 x54 (List.mem_of_getElem? hx54)
        refine k_ix i [D.v (.bool x54.1.s),D.v (.string x54.1.a),D.v (.string x54.1.d),D.v (.bool x54.2.s),D.v (.string x54.2.a),D.v (.string x54.2.d)] (by first|rfl|omega|(rw [wrap64 _ (by omega) (by omega)];omega)) (Zm hx54) rfl ?_
        refine use (ZcH [x54.1,x54.2] (by intro x hx;simp only [List.mem_cons,List.not_mem_nil,or_false] at hx;rcases hx with rfl|rfl<;>omega) (by simp)) rfl ?_
        refine⟨fun e8=> ?_,fun e8=> ?_⟩
        ·have f62:¬ (smallP x54.1∧smallP x54.2):=fun hh=>ZbY (smB2.2 hh) (ZcO e8)
         refine Eq.trans (b:=int 1) ?_ rfl
         have hsm5:=Classical.not_not.1 f19
         have hB:¬ linkBad l:=by
          rintro(h|h|h|h|h|h|h|h|h)
          all_goals first|exact h hsm5.1|exact h hsm5.2.1|exact h hsm5.2.2.1|exact h hsm5.2.2.2.1|exact h hsm5.2.2.2.2|exact f25 h|exact f32 h|exact f37 h|exact f42 h
         have hc0:convE 8 l.shape=0:=by rw [← hk_45_1];exact Classical.not_not.1 f47
         rw [show linkE l=1 by rw [linkE,if_neg hB,if_pos hc0,if_pos ⟨x54,List.mem_of_getElem? hx54,f62⟩]]
        ·have f62:¬ (¬ (smallP x54.1∧smallP x54.2)):=fun hh=>hh (smB2.1 (ZcP e8))
         have hsm:smallP x54.1∧smallP x54.2:=Classical.not_not.1 f62
         refine⟨i+1,⟨by omega,fun j c g hc=>by
          by_cases e:j=i
          ·subst e;rw [hx54] at hc;obtain rfl:=Option.some.inj hc;exact hsm
          ·exact h1 j c (by omega) hc⟩,by simp only;omega,?_⟩
         constructor<;>(repeat' (first|exact rfl|exact True.intro|apply And.intro))
         all_goals first
          |exact congrArg (fun n:Int=>D.v (.int .i64 n)) (by rw [wrap64 _ (by omega) (by omega)];omega)
          |exact congrArg (fun n:Int=>D.v (.int .i64 n)) (by omega)
       ·have f53:¬ ((i:Int)< ((List.map rdv l.shape).length:Int)):=of_decide_eq_false e7
        refine Eq.trans (b:=int 0) ?_ rfl
        have hsm5:=Classical.not_not.1 f19
        have hB:¬ linkBad l:=by
         rintro(h|h|h|h|h|h|h|h|h)
         all_goals first|exact h hsm5.1|exact h hsm5.2.1|exact h hsm5.2.2.1|exact h hsm5.2.2.2.1|exact h hsm5.2.2.2.2|exact f25 h|exact f32 h|exact f37 h|exact f42 h
        have hc0:convE 8 l.shape=0:=by rw [← hk_45_1];exact Classical.not_not.1 f47
        rw [show linkE l=0 by
         rw [linkE,if_neg hB,if_pos hc0,if_neg]
         rintro⟨q,hq,hh⟩
         obtain⟨j,hj⟩:=List.mem_iff_getElem?.1 hq
         exact hh (h1 j q (by have:=(List.getElem?_eq_some_iff.1 hj).1;omega) hj)]
def ArmV.ok (A:ArmV):Prop:=A.name.size≤67108864∧A.bx.z≤67108864∧A.by'.z≤67108864∧A.bt.z≤67108864∧A.links.length≤67108864∧∀ l,l∈A.links→l.len.z≤67108864∧l.low.z≤67108864∧l.high.z≤67108864∧l.speed.z≤67108864∧l.brake.z≤67108864∧l.shape.length≤67108864∧∀ p,p∈l.shape→p.1.z≤67108864∧p.2.z≤67108864
theorem Zif {l:LinkV} (hl:l.len.z≤67108864∧l.low.z≤67108864∧l.high.z≤67108864∧l.speed.z≤67108864∧l.brake.z≤67108864∧l.shape.length≤67108864∧∀ p,p∈l.shape→p.1.z≤67108864∧p.2.z≤67108864) (k:∀ n,n=linkE l→K (int n)):Ask 81 [.val (.agg [.d (.v (.bool l.len.s)),.d (.v (.string l.len.a)),.d (.v (.string l.len.d)),.d (.v (.bool l.low.s)),.d (.v (.string l.low.a)),.d (.v (.string l.low.d)),.d (.v (.bool l.high.s)),.d (.v (.string l.high.a)),.d (.v (.string l.high.d)),.d (.v (.bool l.speed.s)),.d (.v (.string l.speed.a)),.d (.v (.string l.speed.d)),.d (.v (.bool l.brake.s)),.d (.v (.string l.brake.a)),.d (.v (.string l.brake.d)),.d (.list (List.map rdv l.shape))])] K:=use (Zhz l hl) rfl (k _ rfl)
set_option maxHeartbeats 1000000 in
theorem ZhJ (A:ArmV) (hA:A.ok):Spec Tryz.prog Tab 58 [.val (.agg [.d (.v (.string A.name)),.d (.v (.bool A.bx.s)),.d (.v (.string A.bx.a)),.d (.v (.string A.bx.d)),.d (.v (.bool A.by'.s)),.d (.v (.string A.by'.a)),.d (.v (.string A.by'.d)),.d (.v (.bool (A.bh))),.d (.v (.bool A.bt.s)),.d (.v (.string A.bt.a)),.d (.v (.string A.bt.d)),.d (.list (List.map lk A.links))])] (int (armE A)):=by
 obtain⟨z1,z2,z3,z4,z5,z6⟩:=hA
 have hL:(List.map lk A.links).length=A.links.length:=List.length_map ..
 refine Zf Tryz.func58 rfl rfl Tryz.ntmps58 rfl (by kernel_rfl) rfl rfl ?_
 refine Zng (by omega) ?_
 refine⟨fun e1=> ?_,fun e1=> ?_⟩
 ·have f10:¬ (nameOk A.name=true):=fun hh=>ZbY hh (ZcO e1)
  refine Eq.trans (b:=int 3) ?_ rfl
  rw [show armE A=3 from if_neg f10]
 ·have f10:¬ (¬ (nameOk A.name=true)):=fun hh=>hh ((ZcP e1))
  refine⟨fun e2=> ?_,fun e2=> ?_⟩
  ·have f14:((List.map lk A.links).length:Int) >3:=of_decide_eq_true e2
   refine Eq.trans (b:=int 2) ?_ rfl
   have hnm:nameOk A.name=true:=Classical.not_not.1 f10
   rw [show armE A=2 by rw [armE,if_pos hnm,if_pos (by omega)]]
  ·have f14:¬ (((List.map lk A.links).length:Int) >3):=of_decide_eq_false e2
   refine fork (fun e3=> ?_) (fun e3=> ?_)
   ·have f21:((List.map lk A.links).length:Int)=0:=Zjw e3
    refine⟨fun _=> ?_,fun e=>absurd e (by decide)⟩
    refine Eq.trans (b:=int 1) ?_ rfl
    have hnm:nameOk A.name=true:=Classical.not_not.1 f10
    have h3:¬ 3< A.links.length:=by omega
    have hb:baseBad A:=by
     refine Classical.byContradiction fun hh=> ?_
     simp only [baseBad,not_or,Classical.not_not] at hh
     obtain⟨g1,g2,g3,g4,g5⟩:=hh
     first|exact g1 (by omega)|exact f35 ⟨g2,g3,g4⟩|exact g5 ⟨e5,f46⟩|exact f46 (g5 e5)
    rw [show armE A=1 by rw [armE,if_pos hnm,if_neg h3,if_pos hb]]
   ·have f21:¬ (((List.map lk A.links).length:Int)=0):=Zjx e3
    refine use (ZcH [A.bx,A.by',A.bt] (by intro x hx;simp only [List.mem_cons,List.not_mem_nil,or_false] at hx;rcases hx with rfl|rfl|rfl<;>omega) (by simp)) rfl ?_
    refine fork (fun e4=> ?_) (fun e4=> ?_)
    ·have f35:¬ (smallP A.bx∧smallP A.by'∧smallP A.bt):=fun hh=>ZbY (smB3.2 hh) (ZcO e4)
     refine⟨fun _=> ?_,fun e=>absurd e (by decide)⟩
     refine Eq.trans (b:=int 1) ?_ rfl
     have hnm:nameOk A.name=true:=Classical.not_not.1 f10
     have h3:¬ 3< A.links.length:=by omega
     have hb:baseBad A:=by
      refine Classical.byContradiction fun hh=> ?_
      simp only [baseBad,not_or,Classical.not_not] at hh
      obtain⟨g1,g2,g3,g4,g5⟩:=hh
      first|exact g1 (by omega)|exact f35 ⟨g2,g3,g4⟩|exact g5 ⟨e5,f46⟩|exact f46 (g5 e5)
     rw [show armE A=1 by rw [armE,if_pos hnm,if_neg h3,if_pos hb]]
    ·have f35:¬ (¬ (smallP A.bx∧smallP A.by'∧smallP A.bt)):=fun hh=>hh (smB3.1 (ZcP e4))
     refine fork (fun e5=> ?_) (fun e5=> ?_)
     ·refine Zc5 (x:=A.bt) (by omega) fun n43 h43=> ?_
      refine⟨fun e6=> ?_,fun e6=> ?_⟩
      ·have f46:¬ A.bt.q=0:=fun hh=>Zay e6 ((ZhU h43).2 hh)
       refine Eq.trans (b:=int 1) ?_ rfl
       have hnm:nameOk A.name=true:=Classical.not_not.1 f10
       have h3:¬ 3< A.links.length:=by omega
       have hb:baseBad A:=by
        refine Classical.byContradiction fun hh=> ?_
        simp only [baseBad,not_or,Classical.not_not] at hh
        obtain⟨g1,g2,g3,g4,g5⟩:=hh
        first|exact g1 (by omega)|exact f35 ⟨g2,g3,g4⟩|exact g5 ⟨e5,f46⟩|exact f46 (g5 e5)
       rw [show armE A=1 by rw [armE,if_pos hnm,if_neg h3,if_pos hb]]
      ·have f46:¬ (¬ A.bt.q=0):=fun hh=>hh ((ZhU h43).1 (Zaz e6))
       refine⟨Nat,fun i=> [(48,.val (.one (.d (.list (List.map lk A.links))))),(49,int ((List.map lk A.links).length:Int)),(50,int (i:Int))],
        fun i=> [],fun i=>i≤A.links.length∧∀ (j:Nat) (m:LinkV),j< i→A.links[j]? =some m→linkE m=0,fun i=>A.links.length - i,0,?_,⟨Nat.zero_le _,fun j c h=>absurd h (Nat.not_lt_zero _)⟩,fun i hs=> ?_⟩
       ·constructor<;>(repeat' (first|exact rfl|exact True.intro|exact⟨_,_,rfl⟩|exact(by decide)|apply And.intro))
        all_goals first|exact congrArg (fun n:Int=>D.v (.int .i64 n)) (by omega)|exact congrArg (fun n:Int=>D.v (.int .i64 n)) (by rw [wrap64 _ (by omega) (by omega)];omega)|(simp;done)
       obtain⟨hi,h1⟩:=hs
       refine⟨fun e7=> ?_,fun e7=> ?_⟩
       ·have f51:(i:Int)< ((List.map lk A.links).length:Int):=of_decide_eq_true e7
        obtain⟨x52,hx52⟩:∃ vv,A.links[i]? =some vv:=⟨_,List.getElem?_eq_getElem (by first|omega|exact Nat.mod_lt _ (by omega))⟩
        have hzx52:=z6 x52 (List.mem_of_getElem? hx52)
        refine k_ix i [D.v (.bool x52.len.s),D.v (.string x52.len.a),D.v (.string x52.len.d),D.v (.bool x52.low.s),D.v (.string x52.low.a),D.v (.string x52.low.d),D.v (.bool x52.high.s),D.v (.string x52.high.a),D.v (.string x52.high.d),D.v (.bool x52.speed.s),D.v (.string x52.speed.a),D.v (.string x52.speed.d),D.v (.bool x52.brake.s),D.v (.string x52.brake.a),D.v (.string x52.brake.d),D.list (List.map rdv x52.shape)] (by first|rfl|omega|(rw [wrap64 _ (by omega) (by omega)];omega)) (Zm hx52) rfl ?_
        refine Zif (l:=x52) hzx52 fun n55 hk_55_1=> ?_
        refine⟨fun e8=> ?_,fun e8=> ?_⟩
        ·have f57:n55≠0:=Zay e8
         refine Eq.trans (b:=int n55) ?_ rfl
         have hnm:nameOk A.name=true:=Classical.not_not.1 f10
         have h3:¬ 3< A.links.length:=by omega
         have hb:¬ baseBad A:=by
          rintro(h|h|h|h|h)
          ·omega
          ·exact h (Classical.not_not.1 f35).1
          ·exact h (Classical.not_not.1 f35).2.1
          ·exact h (Classical.not_not.1 f35).2.2
          ·first|exact f46 h.2|exact ZbY h.1 e5
         rw [show armE A=n55 by
          rw [armE,if_pos hnm,if_neg h3,if_neg hb,hk_55_1]
          exact Zo hx52 h1 (by rw [← hk_55_1];exact f57)]
        ·have f57:¬ (n55≠0):=fun hh=>hh (Zaz e8)
         refine⟨i+1,⟨by omega,fun j c g hc=>by
          by_cases e:j=i
          ·subst e;rw [hx52] at hc;obtain rfl:=Option.some.inj hc;rw [← hk_55_1];exact Classical.not_not.1 f57
          ·exact h1 j c (by omega) hc⟩,by simp only;omega,?_⟩
         constructor<;>(repeat' (first|exact rfl|exact True.intro|apply And.intro))
         all_goals first
          |exact congrArg (fun n:Int=>D.v (.int .i64 n)) (by rw [wrap64 _ (by omega) (by omega)];omega)
          |exact congrArg (fun n:Int=>D.v (.int .i64 n)) (by omega)
       ·have f51:¬ ((i:Int)< ((List.map lk A.links).length:Int)):=of_decide_eq_false e7
        refine Eq.trans (b:=int 0) ?_ rfl
        have hnm:nameOk A.name=true:=Classical.not_not.1 f10
        have h3:¬ 3< A.links.length:=by omega
        have hb:¬ baseBad A:=by
         rintro(h|h|h|h|h)
         ·omega
         ·exact h (Classical.not_not.1 f35).1
         ·exact h (Classical.not_not.1 f35).2.1
         ·exact h (Classical.not_not.1 f35).2.2
         ·first|exact f46 h.2|exact ZbY h.1 e5
        rw [show armE A=0 by
         rw [armE,if_pos hnm,if_neg h3,if_neg hb]
         exact Zct fun j m hm=>h1 j m (by have:=(List.getElem?_eq_some_iff.1 hm).1;omega) hm]
     ·refine⟨fun e=>absurd e (by decide),fun _=> ?_⟩
      refine⟨Nat,fun i=> [(48,.val (.one (.d (.list (List.map lk A.links))))),(49,int ((List.map lk A.links).length:Int)),(50,int (i:Int))],
       fun i=> [],fun i=>i≤A.links.length∧∀ (j:Nat) (m:LinkV),j< i→A.links[j]? =some m→linkE m=0,fun i=>A.links.length - i,0,?_,⟨Nat.zero_le _,fun j c h=>absurd h (Nat.not_lt_zero _)⟩,fun i hs=> ?_⟩
      ·constructor<;>(repeat' (first|exact rfl|exact True.intro|exact⟨_,_,rfl⟩|exact(by decide)|apply And.intro))
       all_goals first|exact congrArg (fun n:Int=>D.v (.int .i64 n)) (by omega)|exact congrArg (fun n:Int=>D.v (.int .i64 n)) (by rw [wrap64 _ (by omega) (by omega)];omega)|(simp;done)
      obtain⟨hi,h1⟩:=hs
      refine⟨fun e9=> ?_,fun e9=> ?_⟩
      ·have f51:(i:Int)< ((List.map lk A.links).length:Int):=of_decide_eq_true e9
       obtain⟨x52,hx52⟩:∃ vv,A.links[i]? =some vv:=⟨_,List.getElem?_eq_getElem (by first|omega|exact Nat.mod_lt _ (by omega))⟩
       have hzx52:=z6 x52 (List.mem_of_getElem? hx52)
       refine k_ix i [D.v (.bool x52.len.s),D.v (.string x52.len.a),D.v (.string x52.len.d),D.v (.bool x52.low.s),D.v (.string x52.low.a),D.v (.string x52.low.d),D.v (.bool x52.high.s),D.v (.string x52.high.a),D.v (.string x52.high.d),D.v (.bool x52.speed.s),D.v (.string x52.speed.a),D.v (.string x52.speed.d),D.v (.bool x52.brake.s),D.v (.string x52.brake.a),D.v (.string x52.brake.d),D.list (List.map rdv x52.shape)] (by first|rfl|omega|(rw [wrap64 _ (by omega) (by omega)];omega)) (Zm hx52) rfl ?_
       refine Zif (l:=x52) hzx52 fun n55 hk_55_1=> ?_
       refine⟨fun e10=> ?_,fun e10=> ?_⟩
       ·have f57:n55≠0:=Zay e10
        refine Eq.trans (b:=int n55) ?_ rfl
        have hnm:nameOk A.name=true:=Classical.not_not.1 f10
        have h3:¬ 3< A.links.length:=by omega
        have hb:¬ baseBad A:=by
         rintro(h|h|h|h|h)
         ·omega
         ·exact h (Classical.not_not.1 f35).1
         ·exact h (Classical.not_not.1 f35).2.1
         ·exact h (Classical.not_not.1 f35).2.2
         ·first|exact f46 h.2|exact ZbY h.1 e5
        rw [show armE A=n55 by
         rw [armE,if_pos hnm,if_neg h3,if_neg hb,hk_55_1]
         exact Zo hx52 h1 (by rw [← hk_55_1];exact f57)]
       ·have f57:¬ (n55≠0):=fun hh=>hh (Zaz e10)
        refine⟨i+1,⟨by omega,fun j c g hc=>by
         by_cases e:j=i
         ·subst e;rw [hx52] at hc;obtain rfl:=Option.some.inj hc;rw [← hk_55_1];exact Classical.not_not.1 f57
         ·exact h1 j c (by omega) hc⟩,by simp only;omega,?_⟩
        constructor<;>(repeat' (first|exact rfl|exact True.intro|apply And.intro))
        all_goals first
         |exact congrArg (fun n:Int=>D.v (.int .i64 n)) (by rw [wrap64 _ (by omega) (by omega)];omega)
         |exact congrArg (fun n:Int=>D.v (.int .i64 n)) (by omega)
      ·have f51:¬ ((i:Int)< ((List.map lk A.links).length:Int)):=of_decide_eq_false e9
       refine Eq.trans (b:=int 0) ?_ rfl
       have hnm:nameOk A.name=true:=Classical.not_not.1 f10
       have h3:¬ 3< A.links.length:=by omega
       have hb:¬ baseBad A:=by
        rintro(h|h|h|h|h)
        ·omega
        ·exact h (Classical.not_not.1 f35).1
        ·exact h (Classical.not_not.1 f35).2.1
        ·exact h (Classical.not_not.1 f35).2.2
        ·first|exact f46 h.2|exact ZbY h.1 e5
       rw [show armE A=0 by
        rw [armE,if_pos hnm,if_neg h3,if_neg hb]
        exact Zct fun j m hm=>h1 j m (by have:=(List.getElem?_eq_some_iff.1 hm).1;omega) hm]
theorem Znh {A:ArmV} (hA:A.ok) (k:∀ n,n=armE A→K (int n)):Ask 58 [.val (.agg [.d (.v (.string A.name)),.d (.v (.bool A.bx.s)),.d (.v (.string A.bx.a)),.d (.v (.string A.bx.d)),.d (.v (.bool A.by'.s)),.d (.v (.string A.by'.a)),.d (.v (.string A.by'.d)),.d (.v (.bool (A.bh))),.d (.v (.bool A.bt.s)),.d (.v (.string A.bt.a)),.d (.v (.string A.bt.d)),.d (.list (List.map lk A.links))])] K:=use (ZhJ A hA) rfl (k _ rfl)
theorem Zml (A:ArmV) (n:Int) (hA:A.ok):Spec Tryz.prog Tab 27 [.val (.agg [.d (.v (.string A.name)),.d (.v (.bool A.bx.s)),.d (.v (.string A.bx.a)),.d (.v (.string A.bx.d)),.d (.v (.bool A.by'.s)),.d (.v (.string A.by'.a)),.d (.v (.string A.by'.d)),.d (.v (.bool (A.bh))),.d (.v (.bool A.bt.s)),.d (.v (.string A.bt.a)),.d (.v (.string A.bt.d)),.d (.list (List.map lk A.links))]),int n] (int (hasE A n)):=by
 have hA2:=hA
 obtain⟨z1,z2,z3,z4,z5,z6⟩:=hA
 have hL:(List.map lk A.links).length=A.links.length:=List.length_map ..
 refine Zf Tryz.func27 rfl rfl Tryz.ntmps27 rfl (by kernel_rfl) rfl rfl ?_
 refine Znh (A:=A) (by assumption) fun n7 hk_7_1=> ?_
 refine⟨fun e1=> ?_,fun e1=> ?_⟩
 ·have f9:n7≠0:=Zay e1
  refine Eq.trans (b:=int n7) ?_ rfl
  rw [show hasE A n=n7 by rw [hasE,if_neg (by rw [← hk_7_1];exact f9),hk_7_1]]
 ·have f9:¬ (n7≠0):=fun hh=>hh (Zaz e1)
  refine⟨fun e2=> ?_,fun e2=> ?_⟩
  ·have f15:n≠((List.map lk A.links).length:Int):=Zay e2
   refine Eq.trans (b:=int 1) ?_ rfl
   have h0:armE A=0:=by rw [← hk_7_1];exact Classical.not_not.1 f9
   rw [show hasE A n=1 by rw [hasE,if_pos h0,if_neg (by rw [← hL];exact f15)]]
  ·have f15:¬ (n≠((List.map lk A.links).length:Int)):=fun hh=>hh (Zaz e2)
   refine Eq.trans (b:=int 0) ?_ rfl
   have h0:armE A=0:=by rw [← hk_7_1];exact Classical.not_not.1 f9
   rw [show hasE A n=0 by rw [hasE,if_pos h0,if_pos (by rw [← hL];exact Classical.not_not.1 f15)]]
theorem ZpC {A:ArmV} {n:Int} (hA:A.ok) (k:∀ m,m=hasE A n→K (int m)):Ask 27 [.val (.agg [.d (.v (.string A.name)),.d (.v (.bool A.bx.s)),.d (.v (.string A.bx.a)),.d (.v (.string A.bx.d)),.d (.v (.bool A.by'.s)),.d (.v (.string A.by'.a)),.d (.v (.string A.by'.d)),.d (.v (.bool (A.bh))),.d (.v (.bool A.bt.s)),.d (.v (.string A.bt.a)),.d (.v (.string A.bt.d)),.d (.list (List.map lk A.links))]),int n] K:=use (Zml A n hA) rfl (k _ rfl)
set_option maxHeartbeats 1000000 in
theorem ZjH (A:ArmV) (Q:List RV) (hA:A.ok) (hQ:∀ x,x∈Q→x.z≤67108864):Spec Tryz.prog Tab 9 [.val (.agg [.d (.v (.string A.name)),.d (.v (.bool A.bx.s)),.d (.v (.string A.bx.a)),.d (.v (.string A.bx.d)),.d (.v (.bool A.by'.s)),.d (.v (.string A.by'.a)),.d (.v (.string A.by'.d)),.d (.v (.bool (A.bh))),.d (.v (.bool A.bt.s)),.d (.v (.string A.bt.a)),.d (.v (.string A.bt.d)),.d (.list (List.map lk A.links))]),.val (.one (.d (.list (List.map rd Q))))] (int (fitsE A Q)):=by
 have hA2:=hA
 obtain⟨z1,z2,z3,z4,z5,z6⟩:=hA
 have hL:(List.map lk A.links).length=A.links.length:=List.length_map ..
 have hLq:(List.map rd Q).length=Q.length:=List.length_map ..
 refine Zf Tryz.func9 rfl rfl Tryz.ntmps9 rfl (by kernel_rfl) rfl rfl ?_
 refine ZpC (A:=A) (n:=((List.map rd Q).length:Int)) (by assumption) fun n11 hk_11_1=> ?_
 rw [List.length_map] at hk_11_1
 refine⟨fun e1=> ?_,fun e1=> ?_⟩
 ·have f13:n11≠0:=Zay e1
  refine Eq.trans (b:=int n11) ?_ rfl
  rw [show fitsE A Q=n11 by rw [fitsE,if_neg (by rw [← hk_11_1];exact f13),hk_11_1]]
 ·have f13:¬ (n11≠0):=fun hh=>hh (Zaz e1)
  have hlen:=(Zff.1 (show hasE A (Q.length:Int)=0 by rw [← hk_11_1];exact Classical.not_not.1 f13)).2
  refine⟨Nat,fun i=> [(1,.val (.one (.d (.list (List.map rd Q))))),(16,.val (.one (.d (.list (List.map lk A.links))))),(17,int ((List.map lk A.links).length:Int)),(18,int (i:Int))],
   fun i=> [],fun i=>i≤A.links.length∧∀ (j:Nat) (m:LinkV) (x:RV),j< i→A.links[j]? =some m→Q[j]? =some x→¬ (x.q< m.low.q∨m.high.q< x.q),fun i=>A.links.length - i,0,?_,⟨Nat.zero_le _,fun j m x h=>absurd h (Nat.not_lt_zero _)⟩,fun i hs=> ?_⟩
  ·constructor<;>(repeat' (first|exact rfl|exact True.intro|exact⟨_,_,rfl⟩|exact(by decide)|apply And.intro))
   all_goals first|exact congrArg (fun n:Int=>D.v (.int .i64 n)) (by omega)|exact congrArg (fun n:Int=>D.v (.int .i64 n)) (by rw [wrap64 _ (by omega) (by omega)];omega)|(simp;done)
  obtain⟨hi,h1⟩:=hs
  refine⟨fun e2=> ?_,fun e2=> ?_⟩
  ·have f19:(i:Int)< ((List.map lk A.links).length:Int):=of_decide_eq_true e2
   obtain⟨x21,hx21⟩:∃ vv,A.links[i]? =some vv:=⟨_,List.getElem?_eq_getElem (by first|omega|exact Nat.mod_lt _ (by omega))⟩
   have hzx21:=z6 x21 (List.mem_of_getElem? hx21)
   refine k_ix i [D.v (.bool x21.len.s),D.v (.string x21.len.a),D.v (.string x21.len.d),D.v (.bool x21.low.s),D.v (.string x21.low.a),D.v (.string x21.low.d),D.v (.bool x21.high.s),D.v (.string x21.high.a),D.v (.string x21.high.d),D.v (.bool x21.speed.s),D.v (.string x21.speed.a),D.v (.string x21.speed.d),D.v (.bool x21.brake.s),D.v (.string x21.brake.a),D.v (.string x21.brake.d),D.list (List.map rdv x21.shape)] (by first|rfl|omega|(rw [wrap64 _ (by omega) (by omega)];omega)) (Zm hx21) rfl ?_
   obtain⟨x25,hx25⟩:∃ vv,Q[i]? =some vv:=⟨_,List.getElem?_eq_getElem (by first|omega|exact Nat.mod_lt _ (by omega))⟩
   have hzx25:=hQ x25 (List.mem_of_getElem? hx25)
   refine k_ix i [D.v (.bool x25.s),D.v (.string x25.a),D.v (.string x25.d)] (by first|rfl|omega|(rw [wrap64 _ (by omega) (by omega)];omega)) (Zm hx25) rfl ?_
   refine Zlj (x:=x25) (y:=x21.low) (by omega) (by omega) fun n29 h29=> ?_
   refine fork (fun e3=> ?_) (fun e3=> ?_)
   ·have f31:x25.q< x21.low.q:=(Znm h29).1 (of_decide_eq_true e3)
    refine⟨by kernel_rfl,?_⟩
    refine⟨fun _=> ?_,fun e=>absurd e (by decide)⟩
    refine Eq.trans (b:=int 17) ?_ rfl
    have h0:hasE A (Q.length:Int)=0:=by rw [← hk_11_1];exact Classical.not_not.1 f13
    have hf:farQ A Q:=⟨i,x21,x25,hx21,hx25,.inl f31⟩
    rw [show fitsE A Q=17 by rw [fitsE,if_pos h0,if_pos hf]]
   ·have f31:¬ (x25.q< x21.low.q):=fun hh=>of_decide_eq_false e3 ((Znm h29).2 hh)
    refine k_ix i [D.v (.bool x25.s),D.v (.string x25.a),D.v (.string x25.d)] (by first|rfl|omega|(rw [wrap64 _ (by omega) (by omega)];omega)) (Zm hx25) rfl ?_
    refine Zlj (x:=x25) (y:=x21.high) (by omega) (by omega) fun n38 h38=> ?_
    refine⟨by kernel_rfl,?_⟩
    refine⟨fun e4=> ?_,fun e4=> ?_⟩
    ·have f40:x21.high.q< x25.q:=(ZpK h38).1 (of_decide_eq_true e4)
     refine Eq.trans (b:=int 17) ?_ rfl
     have h0:hasE A (Q.length:Int)=0:=by rw [← hk_11_1];exact Classical.not_not.1 f13
     have hf:farQ A Q:=⟨i,x21,x25,hx21,hx25,.inr f40⟩
     rw [show fitsE A Q=17 by rw [fitsE,if_pos h0,if_pos hf]]
    ·have f40:¬ (x21.high.q< x25.q):=fun hh=>of_decide_eq_false e4 ((ZpK h38).2 hh)
     refine⟨i+1,⟨by omega,fun j m x g hm hx=>by
      by_cases e:j=i
      ·subst e;have e1:=Option.some.inj (hx21.symm.trans hm);have e2:=Option.some.inj (hx25.symm.trans hx);subst e1;subst e2
       rintro(h|h)
       ·exact f31 h
       ·exact f40 h
      ·exact h1 j m x (by omega) hm hx⟩,by simp only;omega,?_⟩
     constructor<;>(repeat' (first|exact rfl|exact True.intro|apply And.intro))
     all_goals first
      |exact congrArg (fun n:Int=>D.v (.int .i64 n)) (by rw [wrap64 _ (by omega) (by omega)];omega)
      |exact congrArg (fun n:Int=>D.v (.int .i64 n)) (by omega)
  ·have f19:¬ ((i:Int)< ((List.map lk A.links).length:Int)):=of_decide_eq_false e2
   refine Eq.trans (b:=int 0) ?_ rfl
   have h0:hasE A (Q.length:Int)=0:=by rw [← hk_11_1];exact Classical.not_not.1 f13
   have hf:¬ farQ A Q:=by
    rintro⟨j,m,x,hm,hx,hh⟩
    exact h1 j m x (by have:=(List.getElem?_eq_some_iff.1 hm).1;omega) hm hx hh
   rw [show fitsE A Q=0 by rw [fitsE,if_pos h0,if_neg hf]]
theorem Zlp {A:ArmV} {Q:List RV} (hA:A.ok) (hQ:∀ x,x∈Q→x.z≤67108864) (k:∀ m,m=fitsE A Q→K (int m)):Ask 9 [.val (.agg [.d (.v (.string A.name)),.d (.v (.bool A.bx.s)),.d (.v (.string A.bx.a)),.d (.v (.string A.bx.d)),.d (.v (.bool A.by'.s)),.d (.v (.string A.by'.a)),.d (.v (.string A.by'.d)),.d (.v (.bool (A.bh))),.d (.v (.bool A.bt.s)),.d (.v (.string A.bt.a)),.d (.v (.string A.bt.d)),.d (.list (List.map lk A.links))]),.val (.one (.d (.list (List.map rd Q))))] K:=use (ZjH A Q hA hQ) rfl (k _ rfl)
end
end Go.Proofs.YtjlhknppkodilaaGreatDoor.eng
