/- Contract of gantlaw3.ArmSays: it returns true. Printed by wip/gp_says.py. -/
import Derived.Test.YtpfemjpgbpnpkaaGreatDoorCSayA
import Derived.Test.YtpfemjpgbpnpkaaGreatDoorCGrpX
import Derived.Test.YtpfemjpgbpnpkaaGreatDoorCOpenA
namespace Go.Proofs.YtpfemjpgbpnpkaaGreatDoor.eng
open Go.RowKit num mem seg q held ratA ratB ratC ratD ratE vars ratF argopen trq
section
variable {K : AV → Prop}
theorem ln32:lnV (sampA [3,2])=cn ((5:Nat):Rat):=by
 have l0:(lkAt (sampA [3,2]) 0).len.q=((3:Nat):Rat):=(Zhc (A:=sampA [3,2]) (i:=0) rfl).trans (cn_q _)
 have l1:(lkAt (sampA [3,2]) 1).len.q=((2:Nat):Rat):=(Zhc (A:=sampA [3,2]) (i:=1) rfl).trans (cn_q _)
 rw [Zha (ZcK (by decide) (by decide) (by decide))]
 show cn (0+(lkAt (sampA [3,2]) 0).len.q+(lkAt (sampA [3,2]) 1).len.q)=_
 rw [l0,l1]
 exact congrArg cn (by decide+kernel)
theorem ZnG {α β:Type} {f:α→β} {l:List α} (h:((List.map f l).length:Int) >0) (g:l= []):False:=by rw [g] at h;simp at h
set_option maxHeartbeats 8000000 in
set_option maxRecDepth 100000 in
theorem ZfK (A:ArmV) (Q:List RV) (n:Int) (p:RV) (hA:A.ok) (hQ:∀ x,x∈Q→x.z≤1048576) (hQn:Q.length≤1048576) (hp:p.z≤1048576):Spec Tryz.prog Tab 3 [.val (.agg [.d (.v (.string A.name)),.d (.v (.bool A.bx.s)),.d (.v (.string A.bx.a)),.d (.v (.string A.bx.d)),.d (.v (.bool A.by'.s)),.d (.v (.string A.by'.a)),.d (.v (.string A.by'.d)),.d (.v (.bool (A.bh))),.d (.v (.bool A.bt.s)),.d (.v (.string A.bt.a)),.d (.v (.string A.bt.d)),.d (.list (List.map lk A.links))]),.val (.one (.d (.list (List.map rd Q)))),int n,rat p] (bool true):=by
 have hA2:=hA
 have z6:=hA.2.2.2.2.2
 have hL:(List.map lk A.links).length=A.links.length:=List.length_map ..
 have hLq:(List.map rd Q).length=Q.length:=List.length_map ..
 have o32:(sampA [3,2]).ok:=ZcN (Zg0 (by decide) (by decide)) (by decide)
 have a32:armE (sampA [3,2])=0:=ZcK (by decide) (by decide) (by decide)
 have hQ6:∀ x,x∈Q→x.z≤67108864:=fun x hx=>Nat.le_trans (hQ x hx) (by decide)
 refine Zb Tryz.func3 rfl rfl Tryz.ntmps3 rfl (by kernel_rfl) rfl rfl ?_
 refine Zhf [3,2] rfl (by decide) (by decide) ?_
 refine ZnU (A:=(sampA [3,2])) (by assumption) fun n29 hk_29_1=> ?_
 refine fork (fun e1=> ?_) (fun e1=> ?_)
 ·have f34:n29≠0:=Zy e1
  exfalso
  exact f34 (by rw [hk_29_1];exact a32)
 ·have f34:¬ (n29≠0):=fun hh=>hh (Zz e1)
  refine use ((ZbC 5 (by decide))) rfl ?_
  refine Z8 ln32 ?_
  refine⟨by kernel_rfl,?_⟩
  refine⟨fun e=>absurd e (by decide),fun _=> ?_⟩
  refine Zcn (A:=A) (by assumption) fun n40 hk_40_1=> ?_
  refine Zcm (A:=A) (n:=n) (by assumption) fun n43 hk_43_1=> ?_
  refine ZjV (A:=A) (Q:=Q) (by assumption) hQ6 (by omega) fun n46 hk_46_1=> ?_
  refine⟨by kernel_rfl,?_⟩
  refine Zhl (s:=A.name) (Nat.le_trans hA.1 (by decide)) ?_
  refine Zhj (s:=A.name) (Nat.le_trans hA.1 (by decide)) ?_
  refine Zft (fun _=> ?_) (fun hh=>absurd rfl hh)
  refine Zb5 (A:=A) (by assumption) fun n56 hk_56_1=> ?_
  refine fork (fun e3=> ?_) (fun e3=> ?_)
  ·have f60:n56≠n40:=Zy e3
   exfalso
   exact f60 (by rw [hk_56_1,hk_40_1])
  ·have f60:¬ (n56≠n40):=fun hh=>hh (Zz e3)
   refine ZjW (A:=A) (n:=n) (by assumption) fun n63 hk_63_1=> ?_
   refine fork (fun e4=> ?_) (fun e4=> ?_)
   ·have f67:n63≠n43:=Zy e4
    exfalso
    exact f67 (by rw [hk_63_1,hk_43_1])
   ·have f67:¬ (n63≠n43):=fun hh=>hh (Zz e4)
    refine ZjX (A:=A) (Q:=Q) (by assumption) hQ6 fun n70 hk_70_1=> ?_
    refine⟨by kernel_rfl,?_⟩
    refine⟨fun e5=> ?_,fun e5=> ?_⟩
    ·have f73:n70≠n46:=Zy e5
     exfalso
     exact f73 (by rw [hk_70_1,hk_46_1])
    ·have f73:¬ (n70≠n46):=fun hh=>hh (Zz e5)
     refine ZnU (A:=A) (by assumption) fun n76 hk_76_1=> ?_
     refine Zhk (A:=A) (by assumption) fun n81 hk_81_1=> ?_
     refine ZmX (A:=A) (Q:=Q) (by assumption) (by assumption) fun n87 hk_87_1=> ?_
     refine fork (fun e6=> ?_) (fun e6=> ?_)
     ·have f93:n76≠n40:=Zy e6
      exfalso
      exact f93 (by rw [hk_76_1,hk_40_1])
     ·have f93:¬ (n76≠n40):=fun hh=>hh (Zz e6)
      refine fork (fun e7=> ?_) (fun e7=> ?_)
      ·have f98:n81≠n40:=Zy e7
       exfalso
       exact f98 (by rw [hk_81_1,hk_40_1])
      ·have f98:¬ (n81≠n40):=fun hh=>hh (Zz e7)
       refine Zcm (A:=A) (n:=((List.map rd Q).length:Int)) (by assumption) fun n103 hk_103_1=> ?_
       rw [List.length_map] at hk_103_1
       refine⟨fun e8=> ?_,fun e8=> ?_⟩
       ·have f105:n87≠n103:=Zy e8
        exfalso
        exact f105 (by rw [hk_87_1,hk_103_1])
       ·have f105:¬ (n87≠n103):=fun hh=>hh (Zz e8)
        refine⟨fun e9=> ?_,fun e9=> ?_⟩
        ·have f107:n40≠0:=Zy e9
         have hno:¬ armE A=0:=by rw [← hk_40_1];exact f107
         refine ZbI (Zl9 hno) ?_
         refine fork (fun e11=> ?_) (fun e11=> ?_)
         ·have f116:((List.map jn (jnV A)).length:Int)=0:=ZbN e11
          refine Eq.trans (b:=bool (((List.map rdc (clV A Q)).length:Int)==0)) ?_ rfl
          rw [Zko (fun h=>hno (ZaX.1 h).1)]
          all_goals rfl
         ·have f116:¬ (((List.map jn (jnV A)).length:Int)=0):=ZbO e11
          exfalso
          exact f116 (by rw [Zmk hno];rfl)
        ·have f107:¬ (n40≠0):=fun hh=>hh (Zz e9)
         have hA0:armE A=0:=by rw [← hk_40_1];exact Classical.not_not.1 f107
         have hn3:=(ZaI hA0).1
         have hLj:(jnV A).length=A.links.length:=by rw [ZcE hA0]
         refine k_N3 (0) (by omega) (by omega) fun q121 h121 z121=> ?_
         refine fork (fun e12=> ?_) (fun e12=> ?_)
         ·have f128:((List.map jn (jnV A)).length:Int)≠((List.map lk A.links).length:Int):=Zy e12
          exfalso
          exact f128 (by rw [ZcE hA0,List.length_map,List.length_map])
         ·have f128:¬ (((List.map jn (jnV A)).length:Int)≠((List.map lk A.links).length:Int)):=fun hh=>hh (Zz e12)
          refine fork (fun e13=> ?_) (fun e13=> ?_)
          ·have f131:n87≠0:=Zy e13
           refine fork (fun e14=> ?_) (fun e14=> ?_)
           ·have f137:((List.map rdc (clV A Q)).length:Int) >0:=of_decide_eq_true e14
            exfalso
            exact ZnG f137 (Zko fun h=>f131 (hk_87_1.trans h))
           ·have f137:¬ (((List.map rdc (clV A Q)).length:Int) >0):=of_decide_eq_false e14
            refine fork (fun e15=> ?_) (fun e15=> ?_)
            ·have f140:n87=0:=ZbN e15
             exfalso
             exact f131 f140
            ·have f140:¬ (n87=0):=ZbO e15
             refine⟨fun e=>absurd e (by decide),fun _=> ?_⟩
             have e121:q121=lnF A 0:=h121
             refine⟨Nat,fun i=> [(1,.val (.one (.d (.list (List.map rd Q))))),(7,.val (.one (.ptr 7 0))),(14,.val (.one (.ptr 14 0))),(16,.val (.one (.d (.list (List.map jn (jnV A)))))),(18,.val (.one (.d (.list (List.map rdc (clV A Q)))))),(19,int n87),(20,.val (.one (.ptr 20 0))),(149,.val (.one (.d (.list (List.map lk A.links))))),(150,int ((List.map lk A.links).length:Int)),(151,int (i:Int))],
              fun i=> [(7,.var 23 [.d (.v (.bool p.s)),.d (.v (.string p.a)),.d (.v (.string p.d))]),(14,.var 23 [.d (.v (.bool (lnV A).s)),.d (.v (.string (lnV A).a)),.d (.v (.string (lnV A).d))]),(20,.var 51 [.d (.v (.bool (decide ((lnF A i).num< 0)))),.d (.list (W (w32 (lnF A i).num.natAbs))),.d (.list (W (w32 (lnF A i).den)))])],fun i=>i≤A.links.length,fun i=>A.links.length - i,0,?_,Nat.zero_le _,fun i hs=> ?_⟩
             ·constructor<;>(repeat' (first|exact rfl|exact True.intro|exact⟨_,_,rfl⟩|exact(by decide)|apply And.intro))
              all_goals first
               |exact congrArg (fun q:Rat=>D.v (.bool (decide (q.num< 0)))) e121
               |exact congrArg (fun q:Rat=>D.v (.bool (decide (q.num< 0)))) e121.symm
               |exact congrArg (fun q:Rat=>D.list (W (w32 q.num.natAbs))) e121
               |exact congrArg (fun q:Rat=>D.list (W (w32 q.num.natAbs))) e121.symm
               |exact congrArg (fun q:Rat=>D.list (W (w32 q.den))) e121
               |exact congrArg (fun q:Rat=>D.list (W (w32 q.den))) e121.symm
               |exact congrArg (fun n:Int=>D.v (.int .i64 n)) (by omega)
               |(simp;done)
             have hb:=Zls hA0 i
             refine⟨fun e16=> ?_,fun e16=> ?_⟩
             ·have f152:(i:Int)< ((List.map lk A.links).length:Int):=of_decide_eq_true e16
              refine ZP (l:=A.links) (i:=i) (by first|omega|exact Nat.mod_lt _ (by omega)) fun x154 hx154=> ?_
              have hzx154:=z6 x154 (List.mem_of_getElem? hx154)
              have hsx154:=ZR hA0 (List.mem_of_getElem? hx154)
              have hax154:=ZaF hx154
              refine k_ix i [D.v (.bool x154.len.s),D.v (.string x154.len.a),D.v (.string x154.len.d),D.v (.bool x154.low.s),D.v (.string x154.low.a),D.v (.string x154.low.d),D.v (.bool x154.high.s),D.v (.string x154.high.a),D.v (.string x154.high.d),D.v (.bool x154.speed.s),D.v (.string x154.speed.a),D.v (.string x154.speed.d),D.v (.bool x154.brake.s),D.v (.string x154.brake.a),D.v (.string x154.brake.d),D.list (List.map rdv x154.shape)] (by first|rfl|omega|(rw [wrap64 _ (by omega) (by omega)];omega)|(rw [wrap64 _ (by omega) (by omega)];split<;>omega)) (Zl hx154) rfl ?_
              refine Zt (x:=x154.len) (by omega) fun q159 h159 z159=> ?_
              refine Zdh (p:=lnF A i) (q:=q159) (by omega) (by omega) fun q160 h160 z160=> ?_
              refine⟨by kernel_rfl,?_⟩
              refine Zt (x:=x154.low) (by omega) fun q163 h163 z163=> ?_
              refine Zt (x:=x154.high) (by omega) fun q166 h166 z166=> ?_
              refine⟨by kernel_rfl,?_⟩
              refine ZP (l:=(jnV A)) (i:=i) (by first|omega|exact Nat.mod_lt _ (by omega)) fun x169 hx169=> ?_
              have hj:x169=x154:=Option.some.inj ((by rw [← ZcE hA0];exact hx169:A.links[i]? =some x169).symm.trans hx154)
              have hzx169:x169.low.z≤67108864∧x169.high.z≤67108864:=by rw [hj];exact⟨hzx154.2.1,hzx154.2.2.1⟩
              refine k_ix i [D.iface 165 [D.v (.bool x169.len.s),D.v (.string x169.len.a),D.v (.string x169.len.d),D.v (.bool x169.low.s),D.v (.string x169.low.a),D.v (.string x169.low.d),D.v (.bool x169.high.s),D.v (.string x169.high.a),D.v (.string x169.high.d),D.v (.bool x169.speed.s),D.v (.string x169.speed.a),D.v (.string x169.speed.d),D.v (.bool x169.brake.s),D.v (.string x169.brake.a),D.v (.string x169.brake.d),D.list (List.map rdv x169.shape)]] (by first|rfl|omega|(rw [wrap64 _ (by omega) (by omega)];omega)|(rw [wrap64 _ (by omega) (by omega)];split<;>omega)) (Zl hx169) rfl ?_
              refine⟨_,⟨false,rfl,fun w l=>Zfy w l⟩,?_⟩
              refine k_ix i [D.iface 165 [D.v (.bool x169.len.s),D.v (.string x169.len.a),D.v (.string x169.len.d),D.v (.bool x169.low.s),D.v (.string x169.low.a),D.v (.string x169.low.d),D.v (.bool x169.high.s),D.v (.string x169.high.a),D.v (.string x169.high.d),D.v (.bool x169.speed.s),D.v (.string x169.speed.a),D.v (.string x169.speed.d),D.v (.bool x169.brake.s),D.v (.string x169.brake.a),D.v (.string x169.brake.d),D.list (List.map rdv x169.shape)]] (by first|rfl|omega|(rw [wrap64 _ (by omega) (by omega)];omega)|(rw [wrap64 _ (by omega) (by omega)];split<;>omega)) (Zl hx169) rfl ?_
              refine⟨pair x169.low x169.high,⟨rfl,_,ZdW,Zbo rfl (Zeb x169)⟩,?_⟩
              refine ZcC ⟨by rw [hj],by rw [hj]⟩ ?_
              refine k_ix i [D.iface 165 [D.v (.bool x169.len.s),D.v (.string x169.len.a),D.v (.string x169.len.d),D.v (.bool x169.low.s),D.v (.string x169.low.a),D.v (.string x169.low.d),D.v (.bool x169.high.s),D.v (.string x169.high.a),D.v (.string x169.high.d),D.v (.bool x169.speed.s),D.v (.string x169.speed.a),D.v (.string x169.speed.d),D.v (.bool x169.brake.s),D.v (.string x169.brake.a),D.v (.string x169.brake.d),D.list (List.map rdv x169.shape)]] (by first|rfl|omega|(rw [wrap64 _ (by omega) (by omega)];omega)|(rw [wrap64 _ (by omega) (by omega)];split<;>omega)) (Zl hx169) rfl ?_
              refine⟨rat (cn (jvQ x169 p)),⟨rfl,_,Zck,Zbo rfl (Zcu x169 p hzx169.1 hzx169.2 (by omega))⟩,?_⟩
              refine Zb4 (p:=q166) (q:=q163) (by omega) (by omega) fun q195 h195 z195=> ?_
              refine Zt (x:=p) (by omega) fun q197 h197 z197=> ?_
              refine Zd0 (p:=q195) (q:=q197) (by omega) (by omega) fun q198 h198 z198=> ?_
              refine Zdh (p:=q163) (q:=q198) (by omega) (by omega) fun q199 h199 z199=> ?_
              refine Zfw (q:=q199) (by omega) ?_
              refine Z8 (by rw [hj,h199,h198,h197,h195,h166,h163];rfl) ?_
              refine⟨by kernel_rfl,?_⟩
              refine⟨fun e=>absurd e (by decide),fun _=> ?_⟩
              refine⟨fun e19=> ?_,fun e19=> ?_⟩
              ·have f204:n87≠0:=Zy e19
               have e1:q160=lnF A (i+1):=by rw [h160,h159,← hax154];rfl
               refine⟨i+1,by omega,by simp only;omega,?_⟩
               constructor<;>(repeat' (first|exact rfl|exact True.intro|apply And.intro))
               all_goals first
                |exact congrArg (fun q:Rat=>D.v (.bool (decide (q.num< 0)))) e1
                |exact congrArg (fun q:Rat=>D.v (.bool (decide (q.num< 0)))) e1.symm
                |exact congrArg (fun q:Rat=>D.list (W (w32 q.num.natAbs))) e1
                |exact congrArg (fun q:Rat=>D.list (W (w32 q.num.natAbs))) e1.symm
                |exact congrArg (fun q:Rat=>D.list (W (w32 q.den))) e1
                |exact congrArg (fun q:Rat=>D.list (W (w32 q.den))) e1.symm
                |exact congrArg (fun n:Int=>D.v (.int .i64 n)) (by rw [wrap64 _ (by omega) (by omega)];omega)
                |exact congrArg (fun n:Int=>D.v (.int .i64 n)) (by omega)
              ·have f204:¬ (n87≠0):=fun hh=>hh (Zz e19)
               exfalso
               exact f204 f131
             ·have f152:¬ ((i:Int)< ((List.map lk A.links).length:Int)):=of_decide_eq_false e16
              refine Zfw (q:=lnF A i) (by omega) ?_
              refine ZbI (by rw [Zha hA0,show i=A.links.length from by omega]) ?_
              refine⟨by kernel_rfl,?_⟩
              refine Eq.trans (b:=bool true) ?_ rfl
              rfl
          ·have f131:¬ (n87≠0):=fun hh=>hh (Zz e13)
           refine fork (fun e21=> ?_) (fun e21=> ?_)
           ·have f140:n87=0:=ZbN e21
            refine⟨fun e22=> ?_,fun e22=> ?_⟩
            ·have f147:((List.map rdc (clV A Q)).length:Int)≠((List.map rd Q).length:Int):=Zy e22
             exfalso
             have h0:hasE A (Q.length:Int)=0:=hk_87_1.symm.trans f140
             have hlen0:=(ZaX.1 h0).2
             exact f147 (by rw [Zdr h0,List.length_map,List.length_map,Zds];omega)
            ·have f147:¬ (((List.map rdc (clV A Q)).length:Int)≠((List.map rd Q).length:Int)):=fun hh=>hh (Zz e22)
             have h0:hasE A (Q.length:Int)=0:=hk_87_1.symm.trans f140
             have hlen0:=(ZaX.1 h0).2
             have hlen:Q.length=A.links.length:=by omega
             have hLc:(List.map rdc (clV A Q)).length=A.links.length:=by rw [List.length_map,Zdr h0,Zds]
             have hLc2:(clV A Q).length=A.links.length:=by rw [Zdr h0,Zds]
             have e121:q121=lnF A 0:=h121
             refine⟨Nat,fun i=> [(1,.val (.one (.d (.list (List.map rd Q))))),(7,.val (.one (.ptr 7 0))),(14,.val (.one (.ptr 14 0))),(16,.val (.one (.d (.list (List.map jn (jnV A)))))),(18,.val (.one (.d (.list (List.map rdc (clV A Q)))))),(19,int n87),(20,.val (.one (.ptr 20 0))),(149,.val (.one (.d (.list (List.map lk A.links))))),(150,int ((List.map lk A.links).length:Int)),(151,int (i:Int))],
              fun i=> [(7,.var 23 [.d (.v (.bool p.s)),.d (.v (.string p.a)),.d (.v (.string p.d))]),(14,.var 23 [.d (.v (.bool (lnV A).s)),.d (.v (.string (lnV A).a)),.d (.v (.string (lnV A).d))]),(20,.var 51 [.d (.v (.bool (decide ((lnF A i).num< 0)))),.d (.list (W (w32 (lnF A i).num.natAbs))),.d (.list (W (w32 (lnF A i).den)))])],fun i=>i≤A.links.length,fun i=>A.links.length - i,0,?_,Nat.zero_le _,fun i hs=> ?_⟩
             ·constructor<;>(repeat' (first|exact rfl|exact True.intro|exact⟨_,_,rfl⟩|exact(by decide)|apply And.intro))
              all_goals first
               |exact congrArg (fun q:Rat=>D.v (.bool (decide (q.num< 0)))) e121
               |exact congrArg (fun q:Rat=>D.v (.bool (decide (q.num< 0)))) e121.symm
               |exact congrArg (fun q:Rat=>D.list (W (w32 q.num.natAbs))) e121
               |exact congrArg (fun q:Rat=>D.list (W (w32 q.num.natAbs))) e121.symm
               |exact congrArg (fun q:Rat=>D.list (W (w32 q.den))) e121
               |exact congrArg (fun q:Rat=>D.list (W (w32 q.den))) e121.symm
               |exact congrArg (fun n:Int=>D.v (.int .i64 n)) (by omega)
               |(simp;done)
             have hb:=Zls hA0 i
             refine⟨fun e23=> ?_,fun e23=> ?_⟩
             ·have f152:(i:Int)< ((List.map lk A.links).length:Int):=of_decide_eq_true e23
              refine ZP (l:=A.links) (i:=i) (by first|omega|exact Nat.mod_lt _ (by omega)) fun x154 hx154=> ?_
              have hzx154:=z6 x154 (List.mem_of_getElem? hx154)
              have hsx154:=ZR hA0 (List.mem_of_getElem? hx154)
              have hax154:=ZaF hx154
              refine k_ix i [D.v (.bool x154.len.s),D.v (.string x154.len.a),D.v (.string x154.len.d),D.v (.bool x154.low.s),D.v (.string x154.low.a),D.v (.string x154.low.d),D.v (.bool x154.high.s),D.v (.string x154.high.a),D.v (.string x154.high.d),D.v (.bool x154.speed.s),D.v (.string x154.speed.a),D.v (.string x154.speed.d),D.v (.bool x154.brake.s),D.v (.string x154.brake.a),D.v (.string x154.brake.d),D.list (List.map rdv x154.shape)] (by first|rfl|omega|(rw [wrap64 _ (by omega) (by omega)];omega)|(rw [wrap64 _ (by omega) (by omega)];split<;>omega)) (Zl hx154) rfl ?_
              refine Zt (x:=x154.len) (by omega) fun q159 h159 z159=> ?_
              refine Zdh (p:=lnF A i) (q:=q159) (by omega) (by omega) fun q160 h160 z160=> ?_
              refine⟨by kernel_rfl,?_⟩
              refine Zt (x:=x154.low) (by omega) fun q163 h163 z163=> ?_
              refine Zt (x:=x154.high) (by omega) fun q166 h166 z166=> ?_
              refine⟨by kernel_rfl,?_⟩
              refine ZP (l:=(jnV A)) (i:=i) (by first|omega|exact Nat.mod_lt _ (by omega)) fun x169 hx169=> ?_
              have hj:x169=x154:=Option.some.inj ((by rw [← ZcE hA0];exact hx169:A.links[i]? =some x169).symm.trans hx154)
              have hzx169:x169.low.z≤67108864∧x169.high.z≤67108864:=by rw [hj];exact⟨hzx154.2.1,hzx154.2.2.1⟩
              refine k_ix i [D.iface 165 [D.v (.bool x169.len.s),D.v (.string x169.len.a),D.v (.string x169.len.d),D.v (.bool x169.low.s),D.v (.string x169.low.a),D.v (.string x169.low.d),D.v (.bool x169.high.s),D.v (.string x169.high.a),D.v (.string x169.high.d),D.v (.bool x169.speed.s),D.v (.string x169.speed.a),D.v (.string x169.speed.d),D.v (.bool x169.brake.s),D.v (.string x169.brake.a),D.v (.string x169.brake.d),D.list (List.map rdv x169.shape)]] (by first|rfl|omega|(rw [wrap64 _ (by omega) (by omega)];omega)|(rw [wrap64 _ (by omega) (by omega)];split<;>omega)) (Zl hx169) rfl ?_
              refine⟨_,⟨false,rfl,fun w l=>Zfy w l⟩,?_⟩
              refine k_ix i [D.iface 165 [D.v (.bool x169.len.s),D.v (.string x169.len.a),D.v (.string x169.len.d),D.v (.bool x169.low.s),D.v (.string x169.low.a),D.v (.string x169.low.d),D.v (.bool x169.high.s),D.v (.string x169.high.a),D.v (.string x169.high.d),D.v (.bool x169.speed.s),D.v (.string x169.speed.a),D.v (.string x169.speed.d),D.v (.bool x169.brake.s),D.v (.string x169.brake.a),D.v (.string x169.brake.d),D.list (List.map rdv x169.shape)]] (by first|rfl|omega|(rw [wrap64 _ (by omega) (by omega)];omega)|(rw [wrap64 _ (by omega) (by omega)];split<;>omega)) (Zl hx169) rfl ?_
              refine⟨pair x169.low x169.high,⟨rfl,_,ZdW,Zbo rfl (Zeb x169)⟩,?_⟩
              refine ZcC ⟨by rw [hj],by rw [hj]⟩ ?_
              refine k_ix i [D.iface 165 [D.v (.bool x169.len.s),D.v (.string x169.len.a),D.v (.string x169.len.d),D.v (.bool x169.low.s),D.v (.string x169.low.a),D.v (.string x169.low.d),D.v (.bool x169.high.s),D.v (.string x169.high.a),D.v (.string x169.high.d),D.v (.bool x169.speed.s),D.v (.string x169.speed.a),D.v (.string x169.speed.d),D.v (.bool x169.brake.s),D.v (.string x169.brake.a),D.v (.string x169.brake.d),D.list (List.map rdv x169.shape)]] (by first|rfl|omega|(rw [wrap64 _ (by omega) (by omega)];omega)|(rw [wrap64 _ (by omega) (by omega)];split<;>omega)) (Zl hx169) rfl ?_
              refine⟨rat (cn (jvQ x169 p)),⟨rfl,_,Zck,Zbo rfl (Zcu x169 p hzx169.1 hzx169.2 (by omega))⟩,?_⟩
              refine Zb4 (p:=q166) (q:=q163) (by omega) (by omega) fun q195 h195 z195=> ?_
              refine Zt (x:=p) (by omega) fun q197 h197 z197=> ?_
              refine Zd0 (p:=q195) (q:=q197) (by omega) (by omega) fun q198 h198 z198=> ?_
              refine Zdh (p:=q163) (q:=q198) (by omega) (by omega) fun q199 h199 z199=> ?_
              refine Zfw (q:=q199) (by omega) ?_
              refine Z8 (by rw [hj,h199,h198,h197,h195,h166,h163];rfl) ?_
              refine⟨by kernel_rfl,?_⟩
              refine⟨fun e=>absurd e (by decide),fun _=> ?_⟩
              refine⟨fun e26=> ?_,fun e26=> ?_⟩
              ·have f204:n87≠0:=Zy e26
               exfalso
               exact f131 f204
              ·have f204:¬ (n87≠0):=fun hh=>hh (Zz e26)
               refine ZP (l:=Q) (i:=i) (by first|omega|exact Nat.mod_lt _ (by omega)) fun x207 hx207=> ?_
               have hzx207:=hQ x207 (List.mem_of_getElem? hx207)
               have hxx207q:x207.q=qAt Q i:=(Ze7 hx207).symm
               refine k_ix i [D.v (.bool x207.s),D.v (.string x207.a),D.v (.string x207.d)] (by first|rfl|omega|(rw [wrap64 _ (by omega) (by omega)];omega)|(rw [wrap64 _ (by omega) (by omega)];split<;>omega)) (Zl hx207) rfl ?_
               refine Zt (x:=x207) (by omega) fun q209 h209 z209=> ?_
               refine ZcD (p:=q209) (q:=q163) (by omega) (by omega) fun n212 h212=> ?_
               refine⟨fun e27=> ?_,fun e27=> ?_⟩
               ·have f213:q209< q163:=(ZlK h212).1 (of_decide_eq_true e27)
                refine ZcD (p:=q163) (q:=q166) (by omega) (by omega) fun n217 h217=> ?_
                refine⟨fun e28=> ?_,fun e28=> ?_⟩
                ·have f218:q166< q163:=(ZlL h217).1 (of_decide_eq_true e28)
                 exfalso
                 exact absurd f218 (by have:=hsx154.2.2.2.2.2.2.1;rw [h163,h166];exact Rat.not_lt.2 (Rat.le_of_lt this))
                ·have f218:¬ (q166< q163):=fun hh=>of_decide_eq_false e28 ((ZlL h217).2 hh)
                 refine ZP (l:=(clV A Q)) (i:=i) (by first|omega|exact Nat.mod_lt _ (by omega)) fun x222 hx222=> ?_
                 have hc:x222=clE x154 (qAt Q i):=(Zkp (by rw [← Zdr h0];exact hx222)).trans (by unfold clQ;rw [hax154])
                 refine k_ix i [D.v (.bool (cn x222).s),D.v (.string (cn x222).a),D.v (.string (cn x222).d)] (by first|rfl|omega|(rw [wrap64 _ (by omega) (by omega)];omega)|(rw [wrap64 _ (by omega) (by omega)];split<;>omega)) (Zl hx222) rfl ?_
                 refine Zfw (q:=q163) (by omega) ?_
                 refine Z8 (by first|exact congrArg cn (by rw [hc,h163,Zgw hsx154.2.2.2.2.2.2.1 (by rw [← hxx207q,← h209,← h163];exact f213)])|exact congrArg cn (by rw [hc,h166,ZeH hsx154.2.2.2.2.2.2.1 (by rw [← hxx207q,← h209,← h166];exact f218)])|exact congrArg cn (by rw [hc,h209,hxx207q,Zgv (by rw [← hxx207q,← h209,← h163];exact f213) (by rw [← hxx207q,← h209,← h166];exact f218)])) ?_
                 refine⟨by kernel_rfl,?_⟩
                 refine⟨fun e=>absurd e (by decide),fun _=> ?_⟩
                 have e1:q160=lnF A (i+1):=by rw [h160,h159,← hax154];rfl
                 refine⟨i+1,by omega,by simp only;omega,?_⟩
                 constructor<;>(repeat' (first|exact rfl|exact True.intro|apply And.intro))
                 all_goals first
                  |exact congrArg (fun q:Rat=>D.v (.bool (decide (q.num< 0)))) e1
                  |exact congrArg (fun q:Rat=>D.v (.bool (decide (q.num< 0)))) e1.symm
                  |exact congrArg (fun q:Rat=>D.list (W (w32 q.num.natAbs))) e1
                  |exact congrArg (fun q:Rat=>D.list (W (w32 q.num.natAbs))) e1.symm
                  |exact congrArg (fun q:Rat=>D.list (W (w32 q.den))) e1
                  |exact congrArg (fun q:Rat=>D.list (W (w32 q.den))) e1.symm
                  |exact congrArg (fun n:Int=>D.v (.int .i64 n)) (by rw [wrap64 _ (by omega) (by omega)];omega)
                  |exact congrArg (fun n:Int=>D.v (.int .i64 n)) (by omega)
               ·have f213:¬ (q209< q163):=fun hh=>of_decide_eq_false e27 ((ZlK h212).2 hh)
                refine ZcD (p:=q209) (q:=q166) (by omega) (by omega) fun n217 h217=> ?_
                refine⟨fun e30=> ?_,fun e30=> ?_⟩
                ·have f218:q166< q209:=(ZlL h217).1 (of_decide_eq_true e30)
                 refine ZP (l:=(clV A Q)) (i:=i) (by first|omega|exact Nat.mod_lt _ (by omega)) fun x222 hx222=> ?_
                 have hc:x222=clE x154 (qAt Q i):=(Zkp (by rw [← Zdr h0];exact hx222)).trans (by unfold clQ;rw [hax154])
                 refine k_ix i [D.v (.bool (cn x222).s),D.v (.string (cn x222).a),D.v (.string (cn x222).d)] (by first|rfl|omega|(rw [wrap64 _ (by omega) (by omega)];omega)|(rw [wrap64 _ (by omega) (by omega)];split<;>omega)) (Zl hx222) rfl ?_
                 refine Zfw (q:=q166) (by omega) ?_
                 refine Z8 (by first|exact congrArg cn (by rw [hc,h163,Zgw hsx154.2.2.2.2.2.2.1 (by rw [← hxx207q,← h209,← h163];exact f213)])|exact congrArg cn (by rw [hc,h166,ZeH hsx154.2.2.2.2.2.2.1 (by rw [← hxx207q,← h209,← h166];exact f218)])|exact congrArg cn (by rw [hc,h209,hxx207q,Zgv (by rw [← hxx207q,← h209,← h163];exact f213) (by rw [← hxx207q,← h209,← h166];exact f218)])) ?_
                 refine⟨by kernel_rfl,?_⟩
                 refine⟨fun e=>absurd e (by decide),fun _=> ?_⟩
                 have e1:q160=lnF A (i+1):=by rw [h160,h159,← hax154];rfl
                 refine⟨i+1,by omega,by simp only;omega,?_⟩
                 constructor<;>(repeat' (first|exact rfl|exact True.intro|apply And.intro))
                 all_goals first
                  |exact congrArg (fun q:Rat=>D.v (.bool (decide (q.num< 0)))) e1
                  |exact congrArg (fun q:Rat=>D.v (.bool (decide (q.num< 0)))) e1.symm
                  |exact congrArg (fun q:Rat=>D.list (W (w32 q.num.natAbs))) e1
                  |exact congrArg (fun q:Rat=>D.list (W (w32 q.num.natAbs))) e1.symm
                  |exact congrArg (fun q:Rat=>D.list (W (w32 q.den))) e1
                  |exact congrArg (fun q:Rat=>D.list (W (w32 q.den))) e1.symm
                  |exact congrArg (fun n:Int=>D.v (.int .i64 n)) (by rw [wrap64 _ (by omega) (by omega)];omega)
                  |exact congrArg (fun n:Int=>D.v (.int .i64 n)) (by omega)
                ·have f218:¬ (q166< q209):=fun hh=>of_decide_eq_false e30 ((ZlL h217).2 hh)
                 refine ZP (l:=(clV A Q)) (i:=i) (by first|omega|exact Nat.mod_lt _ (by omega)) fun x222 hx222=> ?_
                 have hc:x222=clE x154 (qAt Q i):=(Zkp (by rw [← Zdr h0];exact hx222)).trans (by unfold clQ;rw [hax154])
                 refine k_ix i [D.v (.bool (cn x222).s),D.v (.string (cn x222).a),D.v (.string (cn x222).d)] (by first|rfl|omega|(rw [wrap64 _ (by omega) (by omega)];omega)|(rw [wrap64 _ (by omega) (by omega)];split<;>omega)) (Zl hx222) rfl ?_
                 refine Zfw (q:=q209) (by omega) ?_
                 refine Z8 (by first|exact congrArg cn (by rw [hc,h163,Zgw hsx154.2.2.2.2.2.2.1 (by rw [← hxx207q,← h209,← h163];exact f213)])|exact congrArg cn (by rw [hc,h166,ZeH hsx154.2.2.2.2.2.2.1 (by rw [← hxx207q,← h209,← h166];exact f218)])|exact congrArg cn (by rw [hc,h209,hxx207q,Zgv (by rw [← hxx207q,← h209,← h163];exact f213) (by rw [← hxx207q,← h209,← h166];exact f218)])) ?_
                 refine⟨by kernel_rfl,?_⟩
                 refine⟨fun e=>absurd e (by decide),fun _=> ?_⟩
                 have e1:q160=lnF A (i+1):=by rw [h160,h159,← hax154];rfl
                 refine⟨i+1,by omega,by simp only;omega,?_⟩
                 constructor<;>(repeat' (first|exact rfl|exact True.intro|apply And.intro))
                 all_goals first
                  |exact congrArg (fun q:Rat=>D.v (.bool (decide (q.num< 0)))) e1
                  |exact congrArg (fun q:Rat=>D.v (.bool (decide (q.num< 0)))) e1.symm
                  |exact congrArg (fun q:Rat=>D.list (W (w32 q.num.natAbs))) e1
                  |exact congrArg (fun q:Rat=>D.list (W (w32 q.num.natAbs))) e1.symm
                  |exact congrArg (fun q:Rat=>D.list (W (w32 q.den))) e1
                  |exact congrArg (fun q:Rat=>D.list (W (w32 q.den))) e1.symm
                  |exact congrArg (fun n:Int=>D.v (.int .i64 n)) (by rw [wrap64 _ (by omega) (by omega)];omega)
                  |exact congrArg (fun n:Int=>D.v (.int .i64 n)) (by omega)
             ·have f152:¬ ((i:Int)< ((List.map lk A.links).length:Int)):=of_decide_eq_false e23
              refine Zfw (q:=lnF A i) (by omega) ?_
              refine ZbI (by rw [Zha hA0,show i=A.links.length from by omega]) ?_
              refine⟨by kernel_rfl,?_⟩
              refine Eq.trans (b:=bool true) ?_ rfl
              rfl
           ·have f140:¬ (n87=0):=ZbO e21
            exfalso
            exact f131 f140
theorem armSays_walk (v0:Value) (A0:ArmV) (v1:Value) (l1:List RV) (x2:Int) (s3:Bool) (a3 d3:ByteArray) (N:Nat) (w:World) (_:1≤N) (hN:N≤1048576) (h0:DenAV w (fun b=>b< w.heap.size) noBs noMem v0 (arm A0)) (u0:A0.zs N) (h1:Den w (fun b=>b< w.heap.size) v1 (.list (l1.map eng.rd))) (u1:ratsZ l1 N) (u2:-9223372036854775808≤x2∧x2≤9223372036854775807) (_:a3.size≤N) (_:d3.size≤N) (hT:Tab w):
  Calls Tryz.prog 3 #[v0,v1,.int .i64 x2,.agg #[.bool s3,.string a3,.string d3]] w fun e w'=>e= .returned (.bool true)∧Below w.heap.size w w':=
 Zbu (I:=fun b=>b< w.heap.size) (ZfK A0 l1 x2 ⟨s3,a3,d3⟩ (ZcN u0 (by omega)) (fun x hx=>Nat.le_trans (u1.2 x hx) (by omega)) (Nat.le_trans u1.1 (by omega)) (by unfold RV.z;simp only;omega)) rfl hT (fun _ h=>h)
  (((((Zf7 (vs:= []) rfl).cons ((Zc8 (v:=rat ⟨s3,a3,d3⟩) rfl).2 rfl)).cons ((Zc8 (v:=int x2) rfl).2 rfl)).cons (show DenAV _ _ _ _ v1 (.val (.one (.d (.list _)))) from h1)).cons h0)
end
end Go.Proofs.YtpfemjpgbpnpkaaGreatDoor.eng
