/- Joined by wip/bundle.py: XPlcA XMotA XPlcR XMotR. -/
import Derived.Test.YtpfemjpgbpnpkaaGreatDoorBGrp1
import Derived.Test.YtpfemjpgbpnpkaaGreatDoorBGrpX
import Derived.Test.YtpfemjpgbpnpkaaGreatDoorBGrpV
import Derived.Test.YtpfemjpgbpnpkaaGreatDoorBGrpZ
set_option maxRecDepth 100000
namespace Go.Proofs.YtpfemjpgbpnpkaaGreatDoor.eng
open Go.RowKit num mem seg q held ratA ratB ratC ratD ratE vars ratF trq
section
variable {K : AV → Prop}
theorem Znw {l:List (RV×RV)} (hl:∀ p,p∈l→p.1.z≤260000000∧p.2.z≤260000000) (hn:l.length≤1073741824) (k:K (box (cn (bx1 l)) (cn (bx2 l)) (cn (bx3 l)) (cn (bx4 l)))):Ask 274 [.val (.one (.d (.list (List.map rdv l))))] K:=
 ZpT hl hn fun p q r u h1 h2 h3 h4=>by subst h1 h2 h3 h4;exact k
set_option maxHeartbeats 1000000 in
theorem ZhH (W:List (List (RV×RV))) (hW:W.length≤1048576∧∀ m,m∈W→m.length≤1048576∧∀ p,p∈m→p.1.z≤1048576∧p.2.z≤1048576):Spec Tryz.prog Tab 233 [.val (.one (.d (.list (List.map rdvs W))))] (int (wallsE W)):=by
 have hLw:(List.map rdvs W).length=W.length:=List.length_map ..
 have hW1:=hW.1
 refine Za Tryz.func233 rfl rfl Tryz.ntmps233 rfl (by kernel_rfl) rfl rfl ?_
 refine⟨fun e1=> ?_,fun e1=> ?_⟩
 ·have f8:((List.map rdvs W).length:Int) >20:=of_decide_eq_true e1
  refine Eq.trans (b:=int 2) ?_ rfl
  rw [ZiZ (by omega)]
 ·have f8:¬ (((List.map rdvs W).length:Int) >20):=of_decide_eq_false e1
  refine⟨Nat,fun i=> [(9,.val (.one (.d (.list (List.map rdvs W))))),(10,int ((List.map rdvs W).length:Int)),(11,int (i:Int))],
   fun i=> [],fun i=>i≤W.length∧∀ j,j< i→convE 8 ((W[j]?).getD [])=0,fun i=>W.length - i,0,?_,⟨Nat.zero_le _,fun j h=>by omega⟩,fun i hs=> ?_⟩
  ·constructor<;>(repeat' (first|exact rfl|exact True.intro|exact⟨_,_,rfl⟩|exact(by decide)|apply And.intro))
   all_goals first|exact congrArg (fun n:Int=>D.v (.int .i64 n)) (by omega)|exact congrArg (fun n:Int=>D.v (.int .i64 n)) (by rw [wrap64 _ (by omega) (by omega)];omega)|(simp;done)
  obtain⟨g1,g2⟩:=hs
  refine⟨fun e2=> ?_,fun e2=> ?_⟩
  ·have f12:(i:Int)< ((List.map rdvs W).length:Int):=of_decide_eq_true e2
   refine Zq (l:=W) (i:=i) (by first|omega|exact Nat.mod_lt _ (by omega)) fun x13 hx13=> ?_
   have hwx13:=hW.2 x13 (List.mem_of_getElem? hx13)
   refine k_ix i [D.list (List.map rdv x13)] (by first|rfl|omega|(rw [wrap64 _ (by omega) (by omega)];omega)) (Zf hx13) rfl ?_
   refine ZjJ (l:=x13) (fun p hp=>⟨Nat.le_trans (hwx13.2 p hp).1 (by decide),Nat.le_trans (hwx13.2 p hp).2 (by decide)⟩) (Nat.le_trans hwx13.1 (by decide)) fun n16 hk_16_1=> ?_
   refine⟨fun e3=> ?_,fun e3=> ?_⟩
   ·have f18:n16≠0:=Z8 e3
    refine Eq.trans (b:=int n16) ?_ rfl
    rw [Zgo (by omega) hx13 g2 (by rw [← hk_16_1];exact f18),← hk_16_1]
   ·have f18:¬ (n16≠0):=fun hh=>hh (Z9 e3)
    have hc0:convE 8 x13=0:=by rw [← hk_16_1];exact Classical.not_not.1 f18
    refine⟨i+1,⟨by omega,fun j hj=>by
     by_cases e:j=i
     ·rw [e,hx13,Option.getD_some];exact hc0
     ·exact g2 j (by omega)⟩,by simp only;omega,?_⟩
    constructor<;>(repeat' (first|exact rfl|exact True.intro|apply And.intro))
    all_goals first
     |exact congrArg (fun n:Int=>D.v (.int .i64 n)) (by rw [wrap64 _ (by omega) (by omega)];omega)
     |exact congrArg (fun n:Int=>D.v (.int .i64 n)) (by omega)
  ·have f12:¬ ((i:Int)< ((List.map rdvs W).length:Int)):=of_decide_eq_false e2
   refine Eq.trans (b:=int 0) ?_ rfl
   rw [Zfw (by omega) fun j hj=>g2 j (by omega)]
theorem ZpP {W:List (List (RV×RV))} (hW:W.length≤1048576∧∀ m,m∈W→m.length≤1048576∧∀ p,p∈m→p.1.z≤1048576∧p.2.z≤1048576) (k:∀ n,n=wallsE W→K (int n)):Ask 233 [.val (.one (.d (.list (List.map rdvs W))))] K:=use (ZhH W hW) rfl (k _ rfl)
set_option maxHeartbeats 4000000 in
theorem ZnR (L M:List (List (RV×RV))) (hL:∀ a,a∈L→okV a) (hM:∀ b,b∈M→okV b) (hnL:L.length≤1048576) (hnM:M.length≤1048576):Spec Tryz.prog Tab 235 [.val (.one (.d (.list (List.map rdvs L)))),.val (.one (.d (.list (List.map rdvs M))))] (bool (freeB L M)):=by
 have hL1:(List.map rdvs L).length=L.length:=List.length_map ..
 have hL2:(List.map rdvs M).length=M.length:=List.length_map ..
 refine Za Tryz.func235 rfl rfl Tryz.ntmps235 rfl (by kernel_rfl) rfl rfl ?_
 refine⟨Nat,fun i=> [(1,.val (.one (.d (.list (List.map rdvs M))))),(11,.val (.one (.d (.list (List.map rdvs L))))),(12,int ((List.map rdvs L).length:Int)),(13,int (i:Int))],
  fun i=> [],fun i=>i≤L.length∧(L.take i).all (fun a=>M.all fun b=>sepB a b)=true,fun i=>L.length - i,0,?_,⟨Nat.zero_le _,rfl⟩,fun i hs=> ?_⟩
 ·constructor<;>(repeat' (first|exact rfl|exact True.intro|exact⟨_,_,rfl⟩|exact(by decide)|apply And.intro))
  all_goals first|exact congrArg (fun n:Int=>D.v (.int .i64 n)) (by omega)|exact congrArg (fun n:Int=>D.v (.int .i64 n)) (by rw [wrap64 _ (by omega) (by omega)];omega)|(simp;done)
 obtain⟨g1,g2⟩:=hs
 refine⟨fun e1=> ?_,fun e1=> ?_⟩
 ·have f14:(i:Int)< ((List.map rdvs L).length:Int):=of_decide_eq_true e1
  refine Zq (l:=L) (i:=i) (by first|omega|exact Nat.mod_lt _ (by omega)) fun x15 hx15=> ?_
  obtain⟨⟨hnx15,hcx15⟩,hvx15⟩:=hL x15 (List.mem_of_getElem? hx15)
  obtain⟨⟨bz1x15,bz2x15⟩,bz3x15,bz4x15⟩:=bx_z hvx15
  refine k_ix i [D.list (List.map rdv x15)] (by first|rfl|omega|(rw [wrap64 _ (by omega) (by omega)];omega)) (Zf hx15) rfl ?_
  refine⟨Nat,fun k=> [(1,.val (.one (.d (.list (List.map rdvs M))))),(6,.val (.one (.d (.list (List.map rdv x15))))),(11,.val (.one (.d (.list (List.map rdvs L))))),(12,int ((List.map rdvs L).length:Int)),(13,int (i:Int)),(17,.val (.one (.d (.list (List.map rdvs M))))),(18,int ((List.map rdvs M).length:Int)),(19,int (k:Int))],
   fun k=> [],fun k=>k≤M.length∧(M.take k).all (fun b=>sepB x15 b)=true,fun k=>M.length - k,0,?_,⟨Nat.zero_le _,rfl⟩,fun k hs=> ?_⟩
  ·constructor<;>(repeat' (first|exact rfl|exact True.intro|exact⟨_,_,rfl⟩|exact(by decide)|apply And.intro))
   all_goals first|exact congrArg (fun n:Int=>D.v (.int .i64 n)) (by omega)|exact congrArg (fun n:Int=>D.v (.int .i64 n)) (by rw [wrap64 _ (by omega) (by omega)];omega)|(simp;done)
  obtain⟨g3,g4⟩:=hs
  refine⟨fun e2=> ?_,fun e2=> ?_⟩
  ·have f20:(k:Int)< ((List.map rdvs M).length:Int):=of_decide_eq_true e2
   refine Zq (l:=M) (i:=k) (by first|omega|exact Nat.mod_lt _ (by omega)) fun x21 hx21=> ?_
   obtain⟨⟨hnx21,hcx21⟩,hvx21⟩:=hM x21 (List.mem_of_getElem? hx21)
   obtain⟨⟨bz1x21,bz2x21⟩,bz3x21,bz4x21⟩:=bx_z hvx21
   refine k_ix k [D.list (List.map rdv x21)] (by first|rfl|omega|(rw [wrap64 _ (by omega) (by omega)];omega)) (Zf hx21) rfl ?_
   refine Znw (l:=x15) (fun p hp=>by have:=hvx15 p hp;omega) (by omega) ?_
   refine Znw (l:=x21) (fun p hp=>by have:=hvx21 p hp;omega) (by omega) ?_
   refine ZpV (by rw [cn_z];omega) (by rw [cn_z];omega) (by rw [cn_z];omega) (by rw [cn_z];omega) (by rw [cn_z];omega) (by rw [cn_z];omega) (by rw [cn_z];omega) (by rw [cn_z];omega) fun b27 hb27=> ?_
   refine⟨fun e3=> ?_,fun e3=> ?_⟩
   ·have f28:¬ (bxMeet (cn (bx1 x15)) (cn (bx2 x15)) (cn (bx3 x15)) (cn (bx4 x15)) (cn (bx1 x21)) (cn (bx2 x21)) (cn (bx3 x21)) (cn (bx4 x21))):=of_decide_eq_false (hb27.symm.trans (Zcm e3))
    have hsp:sepB x15 x21=true:=ZgK hcx15 hcx21 f28
    refine⟨k+1,⟨by omega,by rw [ZaC hx21,g4,hsp];rfl⟩,by simp only;omega,?_⟩
    constructor<;>(repeat' (first|exact rfl|exact True.intro|apply And.intro))
    all_goals first
     |exact congrArg (fun n:Int=>D.v (.int .i64 n)) (by rw [wrap64 _ (by omega) (by omega)];omega)
     |exact congrArg (fun n:Int=>D.v (.int .i64 n)) (by omega)
   ·have f28:¬ (¬ (bxMeet (cn (bx1 x15)) (cn (bx2 x15)) (cn (bx3 x15)) (cn (bx4 x15)) (cn (bx1 x21)) (cn (bx2 x21)) (cn (bx3 x21)) (cn (bx4 x21)))):=fun hh=>hh (of_decide_eq_true (hb27.symm.trans (Zcn e3)))
    refine ZrW (a:=x15) (b:=x21) (fun p hp=>by have:=hvx15 p hp;omega) (fun p hp=>by have:=hvx21 p hp;omega) (by omega) (by omega) fun n32 hk_32_1=> ?_
    refine fork (fun e4=> ?_) (fun e4=> ?_)
    ·have f36:meetB x15 x21=true:=e4
     refine⟨fun _=> ?_,fun e=>absurd e (by decide)⟩
     refine Eq.trans (b:=bool false) ?_ rfl
     have hsp:sepB x15 x21=false:=by
      have:=(Zeb hcx15 hcx21).2
      rw [f36] at this
      cases hh:sepB x15 x21
      ·rfl
      ·rw [hh] at this;exact absurd this (by decide)
     have hfr:freeB L M=false:=ZaX hx15 (ZaX hx21 hsp)
     rw [hfr]
    ·have f36:¬ (meetB x15 x21=true):=fun hh=>ZaG hh e4
     refine⟨fun e5=> ?_,fun e5=> ?_⟩
     ·have f39:n32≠0:=Z8 e5
      exfalso
      exact f39 (by rw [hk_32_1];exact(Zeb hcx15 hcx21).1)
     ·have f39:¬ (n32≠0):=fun hh=>hh (Z9 e5)
      have hsp:sepB x15 x21=true:=by
       have:=(Zeb hcx15 hcx21).2
       cases hh:sepB x15 x21
       ·rw [hh] at this;exact absurd this f36
       ·rfl
      refine⟨k+1,⟨by omega,by rw [ZaC hx21,g4,hsp];rfl⟩,by simp only;omega,?_⟩
      constructor<;>(repeat' (first|exact rfl|exact True.intro|apply And.intro))
      all_goals first
       |exact congrArg (fun n:Int=>D.v (.int .i64 n)) (by rw [wrap64 _ (by omega) (by omega)];omega)
       |exact congrArg (fun n:Int=>D.v (.int .i64 n)) (by omega)
  ·have f20:¬ ((k:Int)< ((List.map rdvs M).length:Int)):=of_decide_eq_false e2
   have hk1:k=M.length:=by omega
   have hall:(M.all fun b=>sepB x15 b)=true:=by rw [← List.take_length (l:=M),← hk1];exact g4
   refine⟨i+1,⟨by omega,by rw [ZaC hx15,g2,hall];rfl⟩,by simp only;omega,?_⟩
   constructor<;>(repeat' (first|exact rfl|exact True.intro|apply And.intro))
   all_goals first
    |exact congrArg (fun n:Int=>D.v (.int .i64 n)) (by rw [wrap64 _ (by omega) (by omega)];omega)
    |exact congrArg (fun n:Int=>D.v (.int .i64 n)) (by omega)
 ·have f14:¬ ((i:Int)< ((List.map rdvs L).length:Int)):=of_decide_eq_false e1
  refine Eq.trans (b:=bool true) ?_ rfl
  have hfr:freeB L M=true:=by
   have hi:i=L.length:=by omega
   unfold freeB
   rw [← List.take_length (l:=L),← hi];exact g2
  rw [hfr]
theorem Zto {L M:List (List (RV×RV))} (hL:∀ a,a∈L→okV a) (hM:∀ b,b∈M→okV b) (hnL:L.length≤1048576) (hnM:M.length≤1048576) (k:K (bool (freeB L M))):Ask 235 [.val (.one (.d (.list (List.map rdvs L)))),.val (.one (.d (.list (List.map rdvs M))))] K:=use (ZnR L M hL hM hnL hnM) rfl k
theorem ZlA {W:List (List (RV×RV))} (h:wallsE W=0) (hz:∀ m,m∈W→m.length≤1048576∧∀ p,p∈m→p.1.z≤1048576∧p.2.z≤1048576):∀ a,a∈W→okV a:=fun a ha=>by
 have hc:=(ZlB h).2 a ha
 exact⟨⟨by have:=(ZaM.1 hc).1;omega,Zsh hc⟩,fun p hp=>by have:=(hz a ha).2 p hp;omega⟩
end
end Go.Proofs.YtpfemjpgbpnpkaaGreatDoor.eng
namespace Go.Proofs.YtpfemjpgbpnpkaaGreatDoor.eng
open Go.RowKit num mem seg q held ratA ratB ratC ratD ratE vars ratF trq
section
variable {K : AV → Prop}
theorem ZpX {l m:List RV} {o:Int} (ho:-9223372036854775808≤o∧o≤9223372036854775807) (hl:l.length≤1048576∧∀ x,x∈l→x.z≤1048576) (hm:m.length≤1048576∧∀ x,x∈m→x.z≤1048576) (k:∀ n,n=splitE l m o→K (.tup [.one (.d (.list (List.map rdvs (splitV l m o)))),.one (.d (.v (.int .i64 n)))])):Ask 232 [.val (.one (.d (.list (List.map rd l)))),.val (.one (.d (.list (List.map rd m)))),int o] K:=by
 have h:=Zlh l m o ho.1 ho.2 (fun x hx=>Nat.le_trans (hl.2 x hx) (by decide)) (fun x hx=>Nat.le_trans (hm.2 x hx) (by decide)) (Nat.le_trans hl.1 (by decide)) (Nat.le_trans hm.1 (by decide))
 by_cases g:splitBad l m o
 ·rw [if_pos g] at h
  have k1:=k _ rfl
  rw [ZdD g,ZoZ g] at k1
  exact use h rfl k1
 ·rw [if_neg g] at h
  have k1:=k _ rfl
  rw [ZdE g,Zi5 g,rowsL,Zmw] at k1
  exact use h rfl k1
theorem Zht (b:B4):Spec Tryz.prog Tab 79 [box (cn b.xl) (cn b.yl) (cn b.xh) (cn b.yh)] (.val (.one (.d (.list (List.map rdv (cvl (cnr b))))))):=by
 refine Za Tryz.func79 rfl rfl Tryz.ntmps79 rfl (by kernel_rfl) rfl rfl ?_
 refine Eq.trans (b:= .val (.one (.d (.list ([[D.v (.bool (cn b.xl).s),D.v (.string (cn b.xl).a),D.v (.string (cn b.xl).d),D.v (.bool (cn b.yl).s),D.v (.string (cn b.yl).a),D.v (.string (cn b.yl).d)], [D.v (.bool (cn b.xh).s),D.v (.string (cn b.xh).a),D.v (.string (cn b.xh).d),D.v (.bool (cn b.yl).s),D.v (.string (cn b.yl).a),D.v (.string (cn b.yl).d)], [D.v (.bool (cn b.xh).s),D.v (.string (cn b.xh).a),D.v (.string (cn b.xh).d),D.v (.bool (cn b.yh).s),D.v (.string (cn b.yh).a),D.v (.string (cn b.yh).d)], [D.v (.bool (cn b.xl).s),D.v (.string (cn b.xl).a),D.v (.string (cn b.xl).d),D.v (.bool (cn b.yh).s),D.v (.string (cn b.yh).a),D.v (.string (cn b.yh).d)]]))))) ?_ rfl
 rfl
theorem ZnE {b:B4} (k:K (.val (.one (.d (.list (List.map rdv (cvl (cnr b)))))))):Ask 79 [box (cn b.xl) (cn b.yl) (cn b.xh) (cn b.yh)] K:=use (Zht b) rfl k
theorem ZkW {A:ArmV} {Q:List (RV×RV)} (hA:A.ok) (hQ:∀ p,p∈Q→p.1.z≤3145760∧p.2.z≤3145760) (h0:hasE A (Q.length:Int)=0) (k:K (.tup [.one (.d (.list (List.map rdB4 (shbL A Q A.links.length)))),.one (.d (.v (.int .i64 0)))])):Ask 234 [.val (.agg [.d (.v (.string A.name)),.d (.v (.bool A.bx.s)),.d (.v (.string A.bx.a)),.d (.v (.string A.bx.d)),.d (.v (.bool A.by'.s)),.d (.v (.string A.by'.a)),.d (.v (.string A.by'.d)),.d (.v (.bool (A.bh))),.d (.v (.bool A.bt.s)),.d (.v (.string A.bt.a)),.d (.v (.string A.bt.d)),.d (.list (List.map lk A.links))]),.val (.one (.d (.list (List.map rdv Q))))] K:=Znt hA hQ fun n hn=>by rw [hn,h0,Zmb h0];exact k
theorem ZrY {L M:List (List (RV×RV))} (hL:∀ a,a∈L→okV a) (hM:∀ b,b∈M→okV b) (hnL:L.length≤1048576) (hnM:M.length≤1048576) (k:∀ b,b=freeB L M→K (bool b)):Ask 235 [.val (.one (.d (.list (List.map rdvs L)))),.val (.one (.d (.list (List.map rdvs M))))] K:=Zto hL hM hnL hnM (k _ rfl)
set_option maxHeartbeats 4000000 in
theorem ZiS (A:ArmV) (l m:List RV) (Wl:List (List (RV×RV))) (o:Int) (hA:A.ok) (hl:l.length≤1048576∧∀ x,x∈l→x.z≤1048576) (hm:m.length≤1048576∧∀ x,x∈m→x.z≤1048576) (hW:Wl.length≤1048576∧∀ m,m∈Wl→m.length≤1048576∧∀ p,p∈m→p.1.z≤1048576∧p.2.z≤1048576) (ho:-9223372036854775808≤o∧o≤9223372036854775807):Spec Tryz.prog Tab 177 [.val (.agg [.d (.v (.string A.name)),.d (.v (.bool A.bx.s)),.d (.v (.string A.bx.a)),.d (.v (.string A.bx.d)),.d (.v (.bool A.by'.s)),.d (.v (.string A.by'.a)),.d (.v (.string A.by'.d)),.d (.v (.bool (A.bh))),.d (.v (.bool A.bt.s)),.d (.v (.string A.bt.a)),.d (.v (.string A.bt.d)),.d (.list (List.map lk A.links))]),.val (.one (.d (.list (List.map rd l)))),.val (.one (.d (.list (List.map rd m)))),.val (.one (.d (.list (List.map rdvs Wl)))),int o] (.tup [.one (.d (.v (.bool (motB A l m Wl o)))),.one (.d (.v (.int .i64 (motE A l m Wl o))))]):=by
 have hA2:=hA
 have hLl:(List.map rd l).length=l.length:=List.length_map ..
 refine Za Tryz.func177 rfl rfl Tryz.ntmps177 rfl (by kernel_rfl) rfl rfl ?_
 refine ZnJ (A:=A) (n:=((List.map rd l).length:Int)) (by assumption) fun n25 hk_25_1=> ?_
 rw [List.length_map] at hk_25_1
 refine⟨fun e1=> ?_,fun e1=> ?_⟩
 ·have f27:n25≠0:=Z8 e1
  refine Eq.trans (b:= .tup [.one (.d (.v (.bool (false)))),.one (.d (.v (.int .i64 (n25))))]) ?_ rfl
  have hno:¬ hasE A (l.length:Int)=0:=by rw [← hk_25_1];exact f27
  rw [Zid (fun g=>hno (ZbK.1 g).1),ZfY hno,← hk_25_1]
  all_goals rfl
 ·have f27:¬ (n25≠0):=fun hh=>hh (Z9 e1)
  refine ZpX (l:=l) (m:=m) (o:=o) ho hl hm fun n33 hk_33_1=> ?_
  refine⟨fun e2=> ?_,fun e2=> ?_⟩
  ·have f37:n33=0:=ZbS e2
   refine ZpP (W:=Wl) hW fun n39 hk_39_1=> ?_
   refine⟨fun e3=> ?_,fun e3=> ?_⟩
   ·have f41:n39≠0:=Z8 e3
    refine Eq.trans (b:= .tup [.one (.d (.v (.bool (false)))),.one (.d (.v (.int .i64 (n39))))]) ?_ rfl
    have h0:hasE A (l.length:Int)=0:=by rw [← hk_25_1];exact Classical.not_not.1 f27
    have hsb:¬ splitBad l m o:=Zgu.1 (by rw [← hk_33_1];exact f37)
    have hno:¬ wallsE Wl=0:=by rw [← hk_39_1];exact f41
    rw [Zid (fun g=>hno (ZbK.1 g).2.2),ZfX h0 hsb,← hk_39_1]
    all_goals rfl
   ·have f41:¬ (n39≠0):=fun hh=>hh (Z9 e3)
    have h0:hasE A (l.length:Int)=0:=by rw [← hk_25_1];exact Classical.not_not.1 f27
    have hsb:¬ splitBad l m o:=Zgu.1 (by rw [← hk_33_1];exact f37)
    have hw0:wallsE Wl=0:=by rw [← hk_39_1];exact Classical.not_not.1 f41
    have hV:=Zi5 hsb
    have hA0:=(Z4.1 h0).1
    have hlen0:=(Z4.1 h0).2
    have hn3:=(ZaA hA0).1
    have hfM:=ZlA hw0 hW.2
    have hM0:motE A l m Wl o=0:=ZbK.2 ⟨h0,hsb,hw0⟩
    have hVl:(splitV l m o).length≤50:=by rw [hV,ZgN];have:=ZdC hsb;omega
    have hLV:(List.map rdvs (splitV l m o)).length=(splitV l m o).length:=List.length_map ..
    refine⟨Nat,fun i=> [(3,.val (.one (.d (.list (List.map rdvs Wl))))),(5,.val (.one (.ptr 5 0))),(43,.val (.one (.d (.list (List.map rdvs (splitV l m o)))))),(44,int ((List.map rdvs (splitV l m o)).length:Int)),(45,int (i:Int))],
     fun i=> [(5,.var 32 [.d (.v (.string A.name)),.d (.v (.bool A.bx.s)),.d (.v (.string A.bx.a)),.d (.v (.string A.bx.d)),.d (.v (.bool A.by'.s)),.d (.v (.string A.by'.a)),.d (.v (.string A.by'.d)),.d (.v (.bool (A.bh))),.d (.v (.bool A.bt.s)),.d (.v (.string A.bt.a)),.d (.v (.string A.bt.d)),.d (.list (List.map lk A.links))])],fun i=>i≤(splitV l m o).length∧((splitV l m o).take i).all (fun row=>freeB (cnrs (shbL A row A.links.length)) Wl)=true,fun i=>(splitV l m o).length - i,0,?_,⟨Nat.zero_le _,rfl⟩,fun i hs=> ?_⟩
    ·constructor<;>(repeat' (first|exact rfl|exact True.intro|exact⟨_,_,rfl⟩|exact(by decide)|apply And.intro))
     all_goals first|exact congrArg (fun n:Int=>D.v (.int .i64 n)) (by omega)|exact congrArg (fun n:Int=>D.v (.int .i64 n)) (by rw [wrap64 _ (by omega) (by omega)];omega)|(simp;done)
    obtain⟨g1,g2⟩:=hs
    refine⟨fun e4=> ?_,fun e4=> ?_⟩
    ·have f46:(i:Int)< ((List.map rdvs (splitV l m o)).length:Int):=of_decide_eq_true e4
     refine Zq (l:=(splitV l m o)) (i:=i) (by first|omega|exact Nat.mod_lt _ (by omega)) fun x47 hx47=> ?_
     have hrx47:=Zmr hsb hl.2 hm.2 x47 (List.mem_of_getElem? (by rw [← hV];exact hx47))
     refine k_ix i [D.list (List.map rdv x47)] (by first|rfl|omega|(rw [wrap64 _ (by omega) (by omega)];omega)|(rw [wrap64 _ (by omega) (by omega)];split<;>omega)) (Zf hx47) rfl ?_
     refine ZkW (A:=A) (Q:=x47) hA2 hrx47.2 (by rw [hrx47.1];exact h0) ?_
     refine⟨fun e=>absurd e (by decide),fun _=> ?_⟩
     have hsl:=ZdG A x47 A.links.length
     have hLb:(List.map rdB4 (shbL A x47 A.links.length)).length=A.links.length:=by rw [List.length_map,hsl]
     refine⟨Nat,fun k=> [(3,.val (.one (.d (.list (List.map rdvs Wl))))),(5,.val (.one (.ptr 5 0))),(19,.val (.one (.row 68 0))),(43,.val (.one (.d (.list (List.map rdvs (splitV l m o)))))),(44,int ((List.map rdvs (splitV l m o)).length:Int)),(45,int (i:Int)),(58,.val (.one (.d (.list (List.map rdB4 (shbL A x47 A.links.length)))))),(59,int ((List.map rdB4 (shbL A x47 A.links.length)).length:Int)),(60,int (k:Int))],
      fun k=> [(5,.var 32 [.d (.v (.string A.name)),.d (.v (.bool A.bx.s)),.d (.v (.string A.bx.a)),.d (.v (.string A.bx.d)),.d (.v (.bool A.by'.s)),.d (.v (.string A.by'.a)),.d (.v (.string A.by'.d)),.d (.v (.bool (A.bh))),.d (.v (.bool A.bt.s)),.d (.v (.string A.bt.a)),.d (.v (.string A.bt.d)),.d (.list (List.map lk A.links))]),(68,.row 53 1 0 (List.map rdvs (cnrs ((shbL A x47 A.links.length).take k))) true)],fun k=>k≤(shbL A x47 A.links.length).length,fun k=>(shbL A x47 A.links.length).length - k,0,?_,Nat.zero_le _,fun k hs=> ?_⟩
     ·constructor<;>(repeat' (first|exact rfl|exact True.intro|exact⟨_,_,rfl⟩|exact(by decide)|apply And.intro))
      all_goals first|exact congrArg (fun n:Int=>D.v (.int .i64 n)) (by omega)|exact congrArg (fun n:Int=>D.v (.int .i64 n)) (by rw [wrap64 _ (by omega) (by omega)];omega)|(simp;done)
     have hT:(List.map rdvs (cnrs ((shbL A x47 A.links.length).take k))).length≤3:=by rw [List.length_map,Zj1,List.length_take];omega
     refine⟨fun e5=> ?_,fun e5=> ?_⟩
     ·have f61:(k:Int)< ((List.map rdB4 (shbL A x47 A.links.length)).length:Int):=of_decide_eq_true e5
      refine Zq (l:=(shbL A x47 A.links.length)) (i:=k) (by first|omega|exact Nat.mod_lt _ (by omega)) fun x62 hx62=> ?_
      refine k_ix k [D.v (.bool (cn x62.xl).s),D.v (.string (cn x62.xl).a),D.v (.string (cn x62.xl).d),D.v (.bool (cn x62.yl).s),D.v (.string (cn x62.yl).a),D.v (.string (cn x62.yl).d),D.v (.bool (cn x62.xh).s),D.v (.string (cn x62.xh).a),D.v (.string (cn x62.xh).d),D.v (.bool (cn x62.yh).s),D.v (.string (cn x62.yh).a),D.v (.string (cn x62.yh).d)] (by first|rfl|omega|(rw [wrap64 _ (by omega) (by omega)];omega)|(rw [wrap64 _ (by omega) (by omega)];split<;>omega)) (Zf hx62) rfl ?_
      refine ZnE (b:=x62) ?_
      refine⟨⟨row1 rfl,(by show ((List.map rdvs (cnrs ((shbL A x47 A.links.length).take k))).length+1)*24≤_;omega),(by show ((List.map rdvs (cnrs ((shbL A x47 A.links.length).take k))).length+1)≤_;omega)⟩,?_⟩
      refine⟨k+1,by omega,by simp only;omega,?_⟩
      constructor<;>(repeat' (first|exact rfl|exact True.intro|apply And.intro))
      all_goals first
       |(rw [Zof hx62];rfl)
       |exact congrArg (fun n:Int=>D.v (.int .i64 n)) (by rw [wrap64 _ (by omega) (by omega)];omega)
       |exact congrArg (fun n:Int=>D.v (.int .i64 n)) (by omega)
     ·have f61:¬ ((k:Int)< ((List.map rdB4 (shbL A x47 A.links.length)).length:Int)):=of_decide_eq_false e5
      have htk:(shbL A x47 A.links.length).take k=shbL A x47 A.links.length:=List.take_of_length_le (by omega)
      refine ZrY (L:=cnrs ((shbL A x47 A.links.length).take k)) (M:=Wl) (by rw [htk];exact Zsi hA0 _) hfM (by rw [Zj1,htk];omega) hW.1 fun b72 hb72=> ?_
      rw [htk] at hb72
      refine⟨fun e6=> ?_,fun e6=> ?_⟩
      ·have f73:¬ (b72=true):=fun hh=>ZaG hh (Zcm e6)
       refine Eq.trans (b:= .tup [.one (.d (.v (.bool (false)))),.one (.d (.v (.int .i64 (0))))]) ?_ rfl
       have hp:provedB A (rowsL l m o) Wl=false:=ZaX (x:=x47) (by rw [← hV];exact hx47) (by rw [← Zhu,← hb72];exact Bool.eq_false_iff.2 f73)
       rw [Zic hM0,hM0,hp]
       all_goals rfl
      ·have f73:¬ (¬ (b72=true)):=fun hh=>hh ((Zcn e6))
       refine⟨i+1,⟨by omega,by rw [ZaC hx47,g2];show (true&&freeB (cnrs (shbL A x47 A.links.length)) Wl)=true;rw [← hb72,Classical.not_not.1 f73];rfl⟩,by simp only;omega,?_⟩
       constructor<;>(repeat' (first|exact rfl|exact True.intro|apply And.intro))
       all_goals first
        |exact congrArg (fun n:Int=>D.v (.int .i64 n)) (by rw [wrap64 _ (by omega) (by omega)];omega)
        |exact congrArg (fun n:Int=>D.v (.int .i64 n)) (by omega)
    ·have f46:¬ ((i:Int)< ((List.map rdvs (splitV l m o)).length:Int)):=of_decide_eq_false e4
     refine Eq.trans (b:= .tup [.one (.d (.v (.bool (true)))),.one (.d (.v (.int .i64 (0))))]) ?_ rfl
     have hi:i=(splitV l m o).length:=by omega
     have hp:provedB A (rowsL l m o) Wl=true:=by
      rw [← hV]
      unfold provedB
      rw [show (fun row=>(shbL A row A.links.length).all fun b=>clearB [cnr b] Wl)=(fun row=>freeB (cnrs (shbL A row A.links.length)) Wl) from funext fun row=>(Zhu A row Wl).symm,← List.take_length (l:=splitV l m o),← hi]
      exact g2
     rw [Zic hM0,hM0,hp]
     all_goals rfl
  ·have f37:¬ (n33=0):=ZbT e2
   refine⟨fun e7=> ?_,fun e7=> ?_⟩
   ·have f41:n33≠0:=Z8 e7
    refine Eq.trans (b:= .tup [.one (.d (.v (.bool (false)))),.one (.d (.v (.int .i64 (n33))))]) ?_ rfl
    have h0:hasE A (l.length:Int)=0:=by rw [← hk_25_1];exact Classical.not_not.1 f27
    have hsb:splitBad l m o:=Classical.not_not.1 fun g=>f37 (by rw [hk_33_1];exact ZdE g)
    rw [Zid (fun g=>(ZbK.1 g).2.1 hsb),ZcK h0 hsb,hk_33_1,ZdD hsb]
    all_goals rfl
   ·have f41:¬ (n33≠0):=fun hh=>hh (Z9 e7)
    exfalso
    exact f37 (Classical.not_not.1 f41)
theorem Zf4 {A:ArmV} {l m:List RV} {Wl:List (List (RV×RV))} {o:Int} (hA:A.ok) (hl:l.length≤1048576∧∀ x,x∈l→x.z≤1048576) (hm:m.length≤1048576∧∀ x,x∈m→x.z≤1048576) (hW:Wl.length≤1048576∧∀ m,m∈Wl→m.length≤1048576∧∀ p,p∈m→p.1.z≤1048576∧p.2.z≤1048576) (ho:-9223372036854775808≤o∧o≤9223372036854775807) (k:∀ b n,b=motB A l m Wl o→n=motE A l m Wl o→K (.tup [.one (.d (.v (.bool b))),.one (.d (.v (.int .i64 n)))])):Ask 177 [.val (.agg [.d (.v (.string A.name)),.d (.v (.bool A.bx.s)),.d (.v (.string A.bx.a)),.d (.v (.string A.bx.d)),.d (.v (.bool A.by'.s)),.d (.v (.string A.by'.a)),.d (.v (.string A.by'.d)),.d (.v (.bool (A.bh))),.d (.v (.bool A.bt.s)),.d (.v (.string A.bt.a)),.d (.v (.string A.bt.d)),.d (.list (List.map lk A.links))]),.val (.one (.d (.list (List.map rd l)))),.val (.one (.d (.list (List.map rd m)))),.val (.one (.d (.list (List.map rdvs Wl)))),int o] K:=use (ZiS A l m Wl o hA hl hm hW ho) rfl (k _ _ rfl rfl)
end
end Go.Proofs.YtpfemjpgbpnpkaaGreatDoor.eng
namespace Go.Proofs.YtpfemjpgbpnpkaaGreatDoor.eng
open Go.RowKit num mem seg q held ratA ratB ratC ratD ratE vars ratF trq
section
variable {K : AV → Prop}
set_option maxHeartbeats 1000000 in
theorem ZiL (W:List (List (RV×RV))) (hW:W.length≤1048576∧∀ m,m∈W→m.length≤1048576∧∀ p,p∈m→p.1.z≤1048576∧p.2.z≤1048576):Spec Tryz.prog Tab 178 [.val (.one (.d (.list (List.map rdvs W))))] (int (wallsE W)):=by
 have hLw:(List.map rdvs W).length=W.length:=List.length_map ..
 have hW1:=hW.1
 refine Za Tryz.func178 rfl rfl Tryz.ntmps178 rfl (by kernel_rfl) rfl rfl ?_
 refine⟨fun e1=> ?_,fun e1=> ?_⟩
 ·have f8:((List.map rdvs W).length:Int) >20:=of_decide_eq_true e1
  refine Eq.trans (b:=int 2) ?_ rfl
  rw [ZiZ (by omega)]
 ·have f8:¬ (((List.map rdvs W).length:Int) >20):=of_decide_eq_false e1
  refine⟨Nat,fun i=> [(9,.val (.one (.d (.list (List.map rdvs W))))),(10,int ((List.map rdvs W).length:Int)),(11,int (i:Int))],
   fun i=> [],fun i=>i≤W.length∧∀ j,j< i→convE 8 ((W[j]?).getD [])=0,fun i=>W.length - i,0,?_,⟨Nat.zero_le _,fun j h=>by omega⟩,fun i hs=> ?_⟩
  ·constructor<;>(repeat' (first|exact rfl|exact True.intro|exact⟨_,_,rfl⟩|exact(by decide)|apply And.intro))
   all_goals first|exact congrArg (fun n:Int=>D.v (.int .i64 n)) (by omega)|exact congrArg (fun n:Int=>D.v (.int .i64 n)) (by rw [wrap64 _ (by omega) (by omega)];omega)|(simp;done)
  obtain⟨g1,g2⟩:=hs
  refine⟨fun e2=> ?_,fun e2=> ?_⟩
  ·have f12:(i:Int)< ((List.map rdvs W).length:Int):=of_decide_eq_true e2
   refine Zq (l:=W) (i:=i) (by first|omega|exact Nat.mod_lt _ (by omega)) fun x13 hx13=> ?_
   have hwx13:=hW.2 x13 (List.mem_of_getElem? hx13)
   refine k_ix i [D.list (List.map rdv x13)] (by first|rfl|omega|(rw [wrap64 _ (by omega) (by omega)];omega)) (Zf hx13) rfl ?_
   refine Zcs (l:=x13) (fun p hp=>⟨Nat.le_trans (hwx13.2 p hp).1 (by decide),Nat.le_trans (hwx13.2 p hp).2 (by decide)⟩) (Nat.le_trans hwx13.1 (by decide)) fun n16 hk_16_1=> ?_
   refine⟨fun e3=> ?_,fun e3=> ?_⟩
   ·have f18:n16≠0:=Z8 e3
    refine Eq.trans (b:=int n16) ?_ rfl
    rw [Zgo (by omega) hx13 g2 (by rw [← hk_16_1];exact f18),← hk_16_1]
   ·have f18:¬ (n16≠0):=fun hh=>hh (Z9 e3)
    have hc0:convE 8 x13=0:=by rw [← hk_16_1];exact Classical.not_not.1 f18
    refine⟨i+1,⟨by omega,fun j hj=>by
     by_cases e:j=i
     ·rw [e,hx13,Option.getD_some];exact hc0
     ·exact g2 j (by omega)⟩,by simp only;omega,?_⟩
    constructor<;>(repeat' (first|exact rfl|exact True.intro|apply And.intro))
    all_goals first
     |exact congrArg (fun n:Int=>D.v (.int .i64 n)) (by rw [wrap64 _ (by omega) (by omega)];omega)
     |exact congrArg (fun n:Int=>D.v (.int .i64 n)) (by omega)
  ·have f12:¬ ((i:Int)< ((List.map rdvs W).length:Int)):=of_decide_eq_false e2
   refine Eq.trans (b:=int 0) ?_ rfl
   rw [Zfw (by omega) fun j hj=>g2 j (by omega)]
theorem ZpZ {W:List (List (RV×RV))} (hW:W.length≤1048576∧∀ m,m∈W→m.length≤1048576∧∀ p,p∈m→p.1.z≤1048576∧p.2.z≤1048576) (k:∀ n,n=wallsE W→K (int n)):Ask 178 [.val (.one (.d (.list (List.map rdvs W))))] K:=use (ZiL W hW) rfl (k _ rfl)
def swA (m n:List (Rat×Rat)) (c:Nat):List (Rat×Rat):=if c % 2=0 then m else n
theorem sw_s (m n:List (Rat×Rat)) (c:Nat):swA m n (c+1)=swA n m c:=by
 unfold swA
 by_cases h:c % 2=0
 ·rw [if_pos h,if_neg (by omega)]
 ·rw [if_neg h,if_pos (by omega)]
def qz (m:List (Rat×Rat)):Prop:=m.length≤1048576∧∀ p,p∈m→qs p.1≤260000000∧qs p.2≤260000000
theorem sw_z {m n:List (Rat×Rat)} (hm:qz m) (hn:qz n) (c:Nat):qz (swA m n c):=by
 unfold swA;split<;>assumption
set_option maxHeartbeats 4000000 in
theorem Zlr (m n:List (Rat×Rat)) (hm:qz m) (hn:qz n):Spec Tryz.prog Tab 285 [.val (.one (.d (.list (List.map rqP m)))),.val (.one (.d (.list (List.map rqP n))))] (bool (meetR m n)):=by
 refine Za Tryz.func285 rfl rfl Tryz.ntmps285 rfl (by kernel_rfl) rfl rfl ?_
 refine⟨Nat,fun c=> [(0,.val (.one (.d (.list (List.map rqP (swA m n c)))))),(1,.val (.one (.d (.list (List.map rqP (swA n m c)))))),(11,int (c:Int))],
  fun c=> [],fun c=>c≤2∧∀ j,j< c→bydB (swA m n j) (swA n m j)=false,fun c=>2 - c,0,?_,⟨Nat.zero_le _,fun j h=>by omega⟩,fun c hs=> ?_⟩
 ·constructor<;>(repeat' (first|exact rfl|exact True.intro|exact⟨_,_,rfl⟩|exact(by decide)|apply And.intro))
  all_goals first|exact congrArg (fun n:Int=>D.v (.int .i64 n)) (by omega)|exact congrArg (fun n:Int=>D.v (.int .i64 n)) (by rw [wrap64 _ (by omega) (by omega)];omega)|(simp;done)
 obtain⟨g1,g2⟩:=hs
 have hzA:=sw_z hm hn c
 have hzB:=sw_z hn hm c
 have hA1:=hzA.1
 have hB1:=hzB.1
 have hLA:(List.map rqP (swA m n c)).length=(swA m n c).length:=List.length_map ..
 have hLB:(List.map rqP (swA n m c)).length=(swA n m c).length:=List.length_map ..
 refine⟨fun e1=> ?_,fun e1=> ?_⟩
 ·have f12:(c:Int)< 2:=of_decide_eq_true e1
  refine⟨Nat,fun i=> [(0,.val (.one (.d (.list (List.map rqP (swA m n c)))))),(1,.val (.one (.d (.list (List.map rqP (swA n m c)))))),(11,int (c:Int)),(13,.val (.one (.d (.list (List.map rqP (swA m n c)))))),(14,int ((List.map rqP (swA m n c)).length:Int)),(15,int (i:Int))],
   fun i=> [],fun i=>i≤(swA m n c).length∧∀ j,j< i→sdU (swA m n c) (swA n m c) j (swA n m c).length=false,fun i=>(swA m n c).length - i,0,?_,⟨Nat.zero_le _,fun j h=>by omega⟩,fun i hs=> ?_⟩
  ·constructor<;>(repeat' (first|exact rfl|exact True.intro|exact⟨_,_,rfl⟩|exact(by decide)|apply And.intro))
   all_goals first|exact congrArg (fun n:Int=>D.v (.int .i64 n)) (by omega)|exact congrArg (fun n:Int=>D.v (.int .i64 n)) (by rw [wrap64 _ (by omega) (by omega)];omega)|(simp;done)
  obtain⟨g3,g4⟩:=hs
  refine⟨fun e2=> ?_,fun e2=> ?_⟩
  ·have f16:(i:Int)< ((List.map rqP (swA m n c)).length:Int):=of_decide_eq_true e2
   refine Zq (l:=(swA m n c)) (i:=i) (by first|omega|exact Nat.mod_lt _ (by omega)) fun x18 hx18=> ?_
   obtain⟨hq1x18,hq2x18⟩:=hzA.2 x18 (List.mem_of_getElem? hx18)
   refine k_ix i [D.v (.bool (decide (x18.1.num< 0))),D.list (W (w32 x18.1.num.natAbs)),D.list (W (w32 x18.1.den)),D.v (.bool (decide (x18.2.num< 0))),D.list (W (w32 x18.2.num.natAbs)),D.list (W (w32 x18.2.den))] (by first|rfl|omega|(rw [wrap64 _ (by omega) (by omega)];omega)) (Zf hx18) rfl ?_
   refine Zdt (i+1) ((swA m n c).length) (by first|rfl|omega|(rw [wrap64 _ (by omega) (by omega)];omega)) (by first|rfl|omega|(rw [wrap64 _ (by omega) (by omega)];omega)) (by omega) ?_
   refine Zq (l:=(swA m n c)) (i:=((i+1) % (swA m n c).length)) (by first|omega|exact Nat.mod_lt _ (by omega)) fun x26 hx26=> ?_
   obtain⟨hq1x26,hq2x26⟩:=hzA.2 x26 (List.mem_of_getElem? hx26)
   refine k_ix ((i+1) % (swA m n c).length) [D.v (.bool (decide (x26.1.num< 0))),D.list (W (w32 x26.1.num.natAbs)),D.list (W (w32 x26.1.den)),D.v (.bool (decide (x26.2.num< 0))),D.list (W (w32 x26.2.num.natAbs)),D.list (W (w32 x26.2.den))] (by first|rfl|omega|(rw [wrap64 _ (by omega) (by omega)];omega)) (Zf hx26) rfl ?_
   refine ZjH (p:=x26.1) (q:=x26.2) (r:=x18.1) (u:=x18.2) (by omega) (by omega) (by omega) (by omega) (fun ya29 yb29 hk_29_2 hk_29_3 hk_29_4 hk_29_5=> ?_)
   refine⟨by kernel_rfl,?_⟩
   refine⟨Nat,fun k=> [(0,.val (.one (.d (.list (List.map rqP (swA m n c)))))),(1,.val (.one (.d (.list (List.map rqP (swA n m c)))))),(6,.val (.one (.ptr 6 0))),(7,.val (.one (.ptr 7 0))),(8,bool (sdU (swA m n c) (swA n m c) i k)),(11,int (c:Int)),(13,.val (.one (.d (.list (List.map rqP (swA m n c)))))),(14,int ((List.map rqP (swA m n c)).length:Int)),(15,int (i:Int)),(30,.val (.one (.d (.list (List.map rqP (swA n m c)))))),(31,int ((List.map rqP (swA n m c)).length:Int)),(32,int (k:Int))],
    fun k=> [(6,.var 104 [.d (.v (.bool (decide (x18.1.num< 0)))),.d (.list (W (w32 x18.1.num.natAbs))),.d (.list (W (w32 x18.1.den))),.d (.v (.bool (decide (x18.2.num< 0)))),.d (.list (W (w32 x18.2.num.natAbs))),.d (.list (W (w32 x18.2.den)))]),(7,.var 104 [.d (.v (.bool (decide (ya29.num< 0)))),.d (.list (W (w32 ya29.num.natAbs))),.d (.list (W (w32 ya29.den))),.d (.v (.bool (decide (yb29.num< 0)))),.d (.list (W (w32 yb29.num.natAbs))),.d (.list (W (w32 yb29.den)))])],fun k=>k≤(swA n m c).length,fun k=>(swA n m c).length - k,0,?_,Nat.zero_le _,fun k hs=> ?_⟩
   ·constructor<;>(repeat' (first|exact rfl|exact True.intro|exact⟨_,_,rfl⟩|exact(by decide)|apply And.intro))
    all_goals first|exact congrArg (fun n:Int=>D.v (.int .i64 n)) (by omega)|exact congrArg (fun n:Int=>D.v (.int .i64 n)) (by rw [wrap64 _ (by omega) (by omega)];omega)|(simp;done)
   refine⟨fun e3=> ?_,fun e3=> ?_⟩
   ·have f33:(k:Int)< ((List.map rqP (swA n m c)).length:Int):=of_decide_eq_true e3
    refine Zq (l:=(swA n m c)) (i:=k) (by first|omega|exact Nat.mod_lt _ (by omega)) fun x34 hx34=> ?_
    obtain⟨hq1x34,hq2x34⟩:=hzB.2 x34 (List.mem_of_getElem? hx34)
    refine k_ix k [D.v (.bool (decide (x34.1.num< 0))),D.list (W (w32 x34.1.num.natAbs)),D.list (W (w32 x34.1.den)),D.v (.bool (decide (x34.2.num< 0))),D.list (W (w32 x34.2.num.natAbs)),D.list (W (w32 x34.2.den))] (by first|rfl|omega|(rw [wrap64 _ (by omega) (by omega)];omega)) (Zf hx34) rfl ?_
    refine fork (fun e4=> ?_) (fun e4=> ?_)
    ·have f37:sdU (swA m n c) (swA n m c) i k=true:=e4
     refine ZjH (p:=x34.1) (q:=x34.2) (r:=x18.1) (u:=x18.2) (by omega) (by omega) (by omega) (by omega) (fun ya41 yb41 hk_41_2 hk_41_3 hk_41_4 hk_41_5=> ?_)
     refine ZjI (p:=ya29) (q:=yb29) (r:=ya41) (u:=yb41) (by omega) (by omega) (by omega) (by omega) (fun ya42 hk_42_1 hk_42_2=> ?_)
     refine Zbb (q:=ya42) fun n43 h43=> ?_
     refine⟨by kernel_rfl,?_⟩
     have hstep:sdU (swA m n c) (swA n m c) i (k+1)=(sdU (swA m n c) (swA n m c) i k&&decide (poly.ori (ptQ (swA m n c) i) (ptQ (swA m n c) ((i+1) % (swA m n c).length)) x34< 0)):=ZaC hx34
     have hok:sdU (swA m n c) (swA n m c) i (k+1)=decide (n43< 0):=by
      rw [hstep,f37,Bool.true_and,Zjp hx18,Zjp hx26]
      refine decide_eq_decide.2 (Iff.trans ?_ (ZqE h43).symm)
      rw [hk_42_1,hk_29_2,hk_29_3,hk_41_2,hk_41_3];exact Iff.rfl
     refine⟨k+1,by omega,by simp only;omega,?_⟩
     constructor<;>(repeat' (first|exact rfl|exact True.intro|apply And.intro))
     all_goals first
      |exact congrArg (fun b:Bool=>D.v (.bool b)) hok
      |exact congrArg (fun b:Bool=>D.v (.bool b)) hok.symm
      |exact congrArg (fun n:Int=>D.v (.int .i64 n)) (by rw [wrap64 _ (by omega) (by omega)];omega)
      |exact congrArg (fun n:Int=>D.v (.int .i64 n)) (by omega)
    ·have f37:¬ (sdU (swA m n c) (swA n m c) i k=true):=fun hh=>ZaG hh e4
     refine⟨by kernel_rfl,?_⟩
     have hstep:sdU (swA m n c) (swA n m c) i (k+1)=(sdU (swA m n c) (swA n m c) i k&&decide (poly.ori (ptQ (swA m n c) i) (ptQ (swA m n c) ((i+1) % (swA m n c).length)) x34< 0)):=ZaC hx34
     have hok:sdU (swA m n c) (swA n m c) i (k+1)=false:=by rw [hstep,Bool.eq_false_iff.2 f37];rfl
     refine⟨k+1,by omega,by simp only;omega,?_⟩
     constructor<;>(repeat' (first|exact rfl|exact True.intro|apply And.intro))
     all_goals first
      |exact congrArg (fun b:Bool=>D.v (.bool b)) hok
      |exact congrArg (fun b:Bool=>D.v (.bool b)) hok.symm
      |exact congrArg (fun n:Int=>D.v (.int .i64 n)) (by rw [wrap64 _ (by omega) (by omega)];omega)
      |exact congrArg (fun n:Int=>D.v (.int .i64 n)) (by omega)
   ·have f33:¬ ((k:Int)< ((List.map rqP (swA n m c)).length:Int)):=of_decide_eq_false e3
    refine⟨fun e5=> ?_,fun e5=> ?_⟩
    ·have f47:sdU (swA m n c) (swA n m c) i k=true:=e5
     refine Eq.trans (b:=bool false) ?_ rfl
     have hy:bydB (swA m n c) (swA n m c)=true:=Zso (i:=i) (by omega) (by rw [← show k=(swA n m c).length from by omega];exact f47)
     have hmr:meetR m n=false:=by
      rcases (show c=0∨c=1 by omega) with rfl|rfl
      ·have hy:bydB m n=true:=hy
       unfold meetR;rw [hy];rfl
      ·have hy:bydB n m=true:=hy
       unfold meetR;rw [hy];simp
     rw [hmr]
    ·have f47:¬ (sdU (swA m n c) (swA n m c) i k=true):=fun hh=>ZaG hh e5
     have hk1:k=(swA n m c).length:=by omega
     have hsd:sdU (swA m n c) (swA n m c) i (swA n m c).length=false:=by rw [← hk1];exact Bool.eq_false_iff.2 f47
     refine⟨i+1,⟨by omega,fun j hj=>by
      by_cases e:j=i
      ·rw [e];exact hsd
      ·exact g4 j (by omega)⟩,by simp only;omega,?_⟩
     constructor<;>(repeat' (first|exact rfl|exact True.intro|apply And.intro))
     all_goals first
      |exact congrArg (fun n:Int=>D.v (.int .i64 n)) (by rw [wrap64 _ (by omega) (by omega)];omega)
      |exact congrArg (fun n:Int=>D.v (.int .i64 n)) (by omega)
  ·have f16:¬ ((i:Int)< ((List.map rqP (swA m n c)).length:Int)):=of_decide_eq_false e2
   have hno:bydB (swA m n c) (swA n m c)=false:=ZtH fun j hj=>g4 j (by omega)
   refine⟨c+1,⟨by omega,fun j hj=>by
    by_cases e:j=c
    ·rw [e];exact hno
    ·exact g2 j (by omega)⟩,by simp only;omega,?_⟩
   constructor<;>(repeat' (first|exact rfl|exact True.intro|apply And.intro))
   all_goals first
    |exact congrArg (fun l=>D.list (List.map rqP l)) (sw_s m n c)
    |exact congrArg (fun l=>D.list (List.map rqP l)) (sw_s n m c)
    |exact congrArg (fun l=>D.list (List.map rqP l)) (sw_s m n c).symm
    |exact congrArg (fun l=>D.list (List.map rqP l)) (sw_s n m c).symm
    |exact congrArg (fun n:Int=>D.v (.int .i64 n)) (by rw [wrap64 _ (by omega) (by omega)];omega)
    |exact congrArg (fun n:Int=>D.v (.int .i64 n)) (by omega)
 ·have f12:¬ ((c:Int)< 2):=of_decide_eq_false e1
  refine Eq.trans (b:=bool true) ?_ rfl
  have hmr:meetR m n=true:=by
   have h1:bydB m n=false:=g2 0 (by omega)
   have h2:bydB n m=false:=g2 1 (by omega)
   unfold meetR;rw [h1,h2];rfl
  rw [hmr]
theorem Zr8 {m n:List (Rat×Rat)} (hm:qz m) (hn:qz n) (k:∀ b,b=meetR m n→K (bool b)):Ask 285 [.val (.one (.d (.list (List.map rqP m)))),.val (.one (.d (.list (List.map rqP n))))] K:=use (Zlr m n hm hn) rfl (k _ rfl)
theorem Zts {l:List (RV×RV)} (hl:∀ p,p∈l→p.1.z≤67108864∧p.2.z≤67108864) (hn:l.length≤1073741824) (k:K (.val (.one (.d (.list (List.map rqP (ptsQ l))))))):Ask 198 [.val (.one (.d (.list (List.map rdv l))))] K:=Ztt hl hn (by rw [Zph];exact k)
theorem ZsV {m:List (RV×RV)} (h:m.length≤1048576∧∀ p,p∈m→p.1.z≤1048576∧p.2.z≤1048576):qz (ptsQ m):=by
 refine⟨by rw [ZfQ];exact h.1,fun q hq=> ?_⟩
 obtain⟨p,hp,rfl⟩:=List.mem_map.1 (show q∈List.map _ _ from hq)
 have:=h.2 p hp;have:=p.1.z1;have:=p.2.z1
 exact⟨by show qs p.1.q≤_;omega,by show qs p.2.q≤_;omega⟩
theorem ZtX {m:List (Rat×Rat)} (h:okP m):qz m:=⟨by have:=h.1;omega,fun p hp=>by have:=h.2 p hp;omega⟩
set_option maxHeartbeats 2000000 in
theorem ZiO (L:List (List (Rat×Rat))) (W:List (List (RV×RV))) (hL:∀ a,a∈L→okP a) (hnL:L.length≤1048576) (hW:W.length≤1048576∧∀ m,m∈W→m.length≤1048576∧∀ p,p∈m→p.1.z≤1048576∧p.2.z≤1048576):Spec Tryz.prog Tab 238 [.val (.one (.d (.list (List.map rqps L)))),.val (.one (.d (.list (List.map rdvs W))))] (bool (clearB L W)):=by
 have hLw:(List.map rdvs W).length=W.length:=List.length_map ..
 have hW1:=hW.1
 have hL1:(List.map rqps L).length=L.length:=List.length_map ..
 refine Za Tryz.func238 rfl rfl Tryz.ntmps238 rfl (by kernel_rfl) rfl rfl ?_
 refine⟨Nat,fun i=> [(1,.val (.one (.d (.list (List.map rdvs W))))),(9,.val (.one (.d (.list (List.map rqps L))))),(10,int ((List.map rqps L).length:Int)),(11,int (i:Int))],
  fun i=> [],fun i=>i≤L.length∧(L.take i).all (fun a=>W.all fun v=>!meetR a (ptsQ v))=true,fun i=>L.length - i,0,?_,⟨Nat.zero_le _,rfl⟩,fun i hs=> ?_⟩
 ·constructor<;>(repeat' (first|exact rfl|exact True.intro|exact⟨_,_,rfl⟩|exact(by decide)|apply And.intro))
  all_goals first|exact congrArg (fun n:Int=>D.v (.int .i64 n)) (by omega)|exact congrArg (fun n:Int=>D.v (.int .i64 n)) (by rw [wrap64 _ (by omega) (by omega)];omega)|(simp;done)
 obtain⟨g1,g2⟩:=hs
 refine⟨fun e1=> ?_,fun e1=> ?_⟩
 ·have f12:(i:Int)< ((List.map rqps L).length:Int):=of_decide_eq_true e1
  refine Zq (l:=L) (i:=i) (by first|omega|exact Nat.mod_lt _ (by omega)) fun x13 hx13=> ?_
  have hqzx13:=ZtX (hL x13 (List.mem_of_getElem? hx13))
  refine k_ix i [D.list (List.map rqP x13)] (by first|rfl|omega|(rw [wrap64 _ (by omega) (by omega)];omega)) (Zf hx13) rfl ?_
  refine⟨Nat,fun k=> [(1,.val (.one (.d (.list (List.map rdvs W))))),(6,.val (.one (.d (.list (List.map rqP x13))))),(9,.val (.one (.d (.list (List.map rqps L))))),(10,int ((List.map rqps L).length:Int)),(11,int (i:Int)),(15,.val (.one (.d (.list (List.map rdvs W))))),(16,int ((List.map rdvs W).length:Int)),(17,int (k:Int))],
   fun k=> [],fun k=>k≤W.length∧(W.take k).all (fun v=>!meetR x13 (ptsQ v))=true,fun k=>W.length - k,0,?_,⟨Nat.zero_le _,rfl⟩,fun k hs=> ?_⟩
  ·constructor<;>(repeat' (first|exact rfl|exact True.intro|exact⟨_,_,rfl⟩|exact(by decide)|apply And.intro))
   all_goals first|exact congrArg (fun n:Int=>D.v (.int .i64 n)) (by omega)|exact congrArg (fun n:Int=>D.v (.int .i64 n)) (by rw [wrap64 _ (by omega) (by omega)];omega)|(simp;done)
  obtain⟨g3,g4⟩:=hs
  refine⟨fun e2=> ?_,fun e2=> ?_⟩
  ·have f18:(k:Int)< ((List.map rdvs W).length:Int):=of_decide_eq_true e2
   refine Zq (l:=W) (i:=k) (by first|omega|exact Nat.mod_lt _ (by omega)) fun x19 hx19=> ?_
   have hwx19:=hW.2 x19 (List.mem_of_getElem? hx19)
   have hqzx19:=ZsV hwx19
   refine k_ix k [D.list (List.map rdv x19)] (by first|rfl|omega|(rw [wrap64 _ (by omega) (by omega)];omega)) (Zf hx19) rfl ?_
   refine Zts (l:=x19) (fun p hp=>⟨Nat.le_trans (hwx19.2 p hp).1 (by decide),Nat.le_trans (hwx19.2 p hp).2 (by decide)⟩) (Nat.le_trans hwx19.1 (by decide)) ?_
   refine Zr8 (m:=x13) (n:=ptsQ x19) hqzx13 hqzx19 fun b24 hb24=> ?_
   refine⟨fun e3=> ?_,fun e3=> ?_⟩
   ·have f24:meetR x13 (ptsQ x19)=true:=hb24.symm.trans e3
    refine Eq.trans (b:=bool false) ?_ rfl
    have hcl:clearB L W=false:=ZaX hx13 (ZaX hx19 (by rw [f24];rfl))
    rw [hcl]
   ·have f24:¬ (meetR x13 (ptsQ x19)=true):=fun hh=>absurd (hh.symm.trans (hb24.symm.trans e3)) (by decide)
    refine⟨k+1,⟨by omega,by rw [ZaC hx19,g4,Bool.eq_false_iff.2 f24];rfl⟩,by simp only;omega,?_⟩
    constructor<;>(repeat' (first|exact rfl|exact True.intro|apply And.intro))
    all_goals first
     |exact congrArg (fun n:Int=>D.v (.int .i64 n)) (by rw [wrap64 _ (by omega) (by omega)];omega)
     |exact congrArg (fun n:Int=>D.v (.int .i64 n)) (by omega)
  ·have f18:¬ ((k:Int)< ((List.map rdvs W).length:Int)):=of_decide_eq_false e2
   have hk1:k=W.length:=by omega
   have hall:(W.all fun v=>!meetR x13 (ptsQ v))=true:=by rw [← List.take_length (l:=W),← hk1];exact g4
   refine⟨i+1,⟨by omega,by rw [ZaC hx13,g2,hall];rfl⟩,by simp only;omega,?_⟩
   constructor<;>(repeat' (first|exact rfl|exact True.intro|apply And.intro))
   all_goals first
    |exact congrArg (fun n:Int=>D.v (.int .i64 n)) (by rw [wrap64 _ (by omega) (by omega)];omega)
    |exact congrArg (fun n:Int=>D.v (.int .i64 n)) (by omega)
 ·have f12:¬ ((i:Int)< ((List.map rqps L).length:Int)):=of_decide_eq_false e1
  refine Eq.trans (b:=bool true) ?_ rfl
  have hcl:clearB L W=true:=by
   have hi:i=L.length:=by omega
   unfold clearB
   rw [← List.take_length (l:=L),← hi];exact g2
  rw [hcl]
theorem Zp2 {L:List (List (Rat×Rat))} {W:List (List (RV×RV))} (hL:∀ a,a∈L→okP a) (hnL:L.length≤1048576) (hW:W.length≤1048576∧∀ m,m∈W→m.length≤1048576∧∀ p,p∈m→p.1.z≤1048576∧p.2.z≤1048576) (k:∀ b,b=clearB L W→K (bool b)):Ask 238 [.val (.one (.d (.list (List.map rqps L)))),.val (.one (.d (.list (List.map rdvs W))))] K:=use (ZiO L W hL hnL hW) rfl (k _ rfl)
end
end Go.Proofs.YtpfemjpgbpnpkaaGreatDoor.eng
namespace Go.Proofs.YtpfemjpgbpnpkaaGreatDoor.eng
open Go.RowKit num mem seg q held ratA ratB ratC ratD ratE vars ratF trq
section
variable {K : AV → Prop}
theorem Zp3 {l m:List RV} {o:Int} (ho1:1≤o) (ho2:o≤50) (hl:l.length≤1048576∧∀ x,x∈l→x.z≤1048576) (hm:m.length≤1048576∧∀ x,x∈m→x.z≤1048576) (k:K (.val (.one (.d (.list (List.map rdvs (rowsL l m o))))))):Ask 236 [.val (.one (.d (.list (List.map rd l)))),.val (.one (.d (.list (List.map rd m)))),int o] K:=by
 refine use (Zlt l m o ho1 ho2 (fun x hx=>Nat.le_trans (hl.2 x hx) (by decide)) (fun x hx=>Nat.le_trans (hm.2 x hx) (by decide)) (Nat.le_trans hl.1 (by decide)) (Nat.le_trans hm.1 (by decide))) rfl ?_
 rw [rowsL,Zmw] at k
 exact k
set_option maxHeartbeats 4000000 in
theorem Zlq (A:ArmV) (l m:List RV) (Wl:List (List (RV×RV))) (o:Int) (hA:A.ok) (hl:l.length≤1048576∧∀ x,x∈l→x.z≤1048576) (hm:m.length≤1048576∧∀ x,x∈m→x.z≤1048576) (hW:Wl.length≤1048576∧∀ m,m∈Wl→m.length≤1048576∧∀ p,p∈m→p.1.z≤1048576∧p.2.z≤1048576) (ho:-9223372036854775808≤o∧o≤9223372036854775807):Spec Tryz.prog Tab 90 [.val (.agg [.d (.v (.string A.name)),.d (.v (.bool A.bx.s)),.d (.v (.string A.bx.a)),.d (.v (.string A.bx.d)),.d (.v (.bool A.by'.s)),.d (.v (.string A.by'.a)),.d (.v (.string A.by'.d)),.d (.v (.bool (A.bh))),.d (.v (.bool A.bt.s)),.d (.v (.string A.bt.a)),.d (.v (.string A.bt.d)),.d (.list (List.map lk A.links))]),.val (.one (.d (.list (List.map rd l)))),.val (.one (.d (.list (List.map rd m)))),.val (.one (.d (.list (List.map rdvs Wl)))),int o] (int (motE A l m Wl o)):=by
 have hA2:=hA
 have hLl:(List.map rd l).length=l.length:=List.length_map ..
 have hLm:(List.map rd m).length=m.length:=List.length_map ..
 refine Za Tryz.func90 rfl rfl Tryz.ntmps90 rfl (by kernel_rfl) rfl rfl ?_
 refine ZkZ (A:=A) (n:=((List.map rd l).length:Int)) (by assumption) fun n15 hk_15_1=> ?_
 rw [List.length_map] at hk_15_1
 refine fork (fun e1=> ?_) (fun e1=> ?_)
 ·have f18:n15=0:=ZbS e1
  refine fork (fun e2=> ?_) (fun e2=> ?_)
  ·have f24:((List.map rd l).length:Int)≠((List.map rd m).length:Int):=Z8 e2
   refine⟨fun _=> ?_,fun e=>absurd e (by decide)⟩
   refine⟨fun e=>absurd e (by decide),fun _=> ?_⟩
   refine Eq.trans (b:=int 1) ?_ rfl
   have h0:hasE A (l.length:Int)=0:=by rw [← hk_15_1];exact f18
   have hl0:=Z4.1 h0
   have hn3:=(ZaA hl0.1).1
   rw [ZcK h0 (by unfold splitBad;omega)]
  ·have f24:¬ (((List.map rd l).length:Int)≠((List.map rd m).length:Int)):=fun hh=>hh (Z9 e2)
   refine fork (fun e3=> ?_) (fun e3=> ?_)
   ·have f28:o< 1:=of_decide_eq_true e3
    refine⟨fun _=> ?_,fun e=>absurd e (by decide)⟩
    refine⟨fun e=>absurd e (by decide),fun _=> ?_⟩
    refine Eq.trans (b:=int 1) ?_ rfl
    have h0:hasE A (l.length:Int)=0:=by rw [← hk_15_1];exact f18
    have hl0:=Z4.1 h0
    have hn3:=(ZaA hl0.1).1
    rw [ZcK h0 (by unfold splitBad;omega)]
   ·have f28:¬ (o< 1):=of_decide_eq_false e3
    refine⟨fun e4=> ?_,fun e4=> ?_⟩
    ·have f32:o >50:=of_decide_eq_true e4
     refine⟨fun e=>absurd e (by decide),fun _=> ?_⟩
     refine Eq.trans (b:=int 1) ?_ rfl
     have h0:hasE A (l.length:Int)=0:=by rw [← hk_15_1];exact f18
     have hl0:=Z4.1 h0
     have hn3:=(ZaA hl0.1).1
     rw [ZcK h0 (by unfold splitBad;omega)]
    ·have f32:¬ (o >50):=of_decide_eq_false e4
     refine⟨fun e5=> ?_,fun e5=> ?_⟩
     ·have f34:n15=0:=ZbS e5
      refine ZpZ (W:=Wl) hW fun n36 hk_36_1=> ?_
      refine Eq.trans (b:=int n36) ?_ rfl
      have h0:hasE A (l.length:Int)=0:=by rw [← hk_15_1];exact f18
      have hl0:=Z4.1 h0
      have hn3:=(ZaA hl0.1).1
      rw [ZfX h0 (by unfold splitBad;omega),← hk_36_1]
     ·have f34:¬ (n15=0):=ZbT e5
      exfalso
      exact f34 f18
 ·have f18:¬ (n15=0):=ZbT e1
  refine⟨fun e=>absurd e (by decide),fun _=> ?_⟩
  refine⟨fun e6=> ?_,fun e6=> ?_⟩
  ·have f34:n15=0:=ZbS e6
   exfalso
   exact f18 f34
  ·have f34:¬ (n15=0):=ZbT e6
   refine Eq.trans (b:=int n15) ?_ rfl
   have hno:¬ hasE A (l.length:Int)=0:=by rw [← hk_15_1];exact f18
   rw [ZfY hno,← hk_15_1]
theorem Zr7 {A:ArmV} {l m:List RV} {Wl:List (List (RV×RV))} {o:Int} (hA:A.ok) (hl:l.length≤1048576∧∀ x,x∈l→x.z≤1048576) (hm:m.length≤1048576∧∀ x,x∈m→x.z≤1048576) (hW:Wl.length≤1048576∧∀ m,m∈Wl→m.length≤1048576∧∀ p,p∈m→p.1.z≤1048576∧p.2.z≤1048576) (ho:-9223372036854775808≤o∧o≤9223372036854775807) (k:∀ n,n=motE A l m Wl o→K (int n)):Ask 90 [.val (.agg [.d (.v (.string A.name)),.d (.v (.bool A.bx.s)),.d (.v (.string A.bx.a)),.d (.v (.string A.bx.d)),.d (.v (.bool A.by'.s)),.d (.v (.string A.by'.a)),.d (.v (.string A.by'.d)),.d (.v (.bool (A.bh))),.d (.v (.bool A.bt.s)),.d (.v (.string A.bt.a)),.d (.v (.string A.bt.d)),.d (.list (List.map lk A.links))]),.val (.one (.d (.list (List.map rd l)))),.val (.one (.d (.list (List.map rd m)))),.val (.one (.d (.list (List.map rdvs Wl)))),int o] K:=use (Zlq A l m Wl o hA hl hm hW ho) rfl (k _ rfl)
set_option maxHeartbeats 4000000 in
theorem ZhE (A:ArmV) (l m:List RV) (Wl:List (List (RV×RV))) (o:Int) (hA:A.ok) (hl:l.length≤1048576∧∀ x,x∈l→x.z≤1048576) (hm:m.length≤1048576∧∀ x,x∈m→x.z≤1048576) (hW:Wl.length≤1048576∧∀ m,m∈Wl→m.length≤1048576∧∀ p,p∈m→p.1.z≤1048576∧p.2.z≤1048576) (h0:motE A l m Wl o=0):Spec Tryz.prog Tab 179 [.val (.agg [.d (.v (.string A.name)),.d (.v (.bool A.bx.s)),.d (.v (.string A.bx.a)),.d (.v (.string A.bx.d)),.d (.v (.bool A.by'.s)),.d (.v (.string A.by'.a)),.d (.v (.string A.by'.d)),.d (.v (.bool (A.bh))),.d (.v (.bool A.bt.s)),.d (.v (.string A.bt.a)),.d (.v (.string A.bt.d)),.d (.list (List.map lk A.links))]),.val (.one (.d (.list (List.map rd l)))),.val (.one (.d (.list (List.map rd m)))),.val (.one (.d (.list (List.map rdvs Wl)))),int o] (bool (provedB A (rowsL l m o) Wl)):=by
 have hA2:=hA
 obtain⟨hs1,hs2,hs4⟩:=ZbK.1 h0
 have hs3:=ZdC hs2
 have hA0:=(Z4.1 hs1).1
 have hlA0:=(Z4.1 hs1).2
 have hlA:l.length=A.links.length:=by omega
 have hn3:=(ZaA hA0).1
 have hLr:(List.map rdvs (rowsL l m o)).length=(rowsL l m o).length:=List.length_map ..
 have hLn:=ZgN l m o
 refine Za Tryz.func179 rfl rfl Tryz.ntmps179 rfl (by kernel_rfl) rfl rfl ?_
 refine Zp3 (l:=l) (m:=m) (o:=o) hs3.2.2.1 hs3.2.2.2 hl hm ?_
 refine⟨Nat,fun i=> [(3,.val (.one (.d (.list (List.map rdvs Wl))))),(5,.val (.one (.ptr 5 0))),(20,.val (.one (.d (.list (List.map rdvs (rowsL l m o)))))),(21,int ((List.map rdvs (rowsL l m o)).length:Int)),(22,int (i:Int))],
  fun i=> [(5,.var 32 [.d (.v (.string A.name)),.d (.v (.bool A.bx.s)),.d (.v (.string A.bx.a)),.d (.v (.string A.bx.d)),.d (.v (.bool A.by'.s)),.d (.v (.string A.by'.a)),.d (.v (.string A.by'.d)),.d (.v (.bool (A.bh))),.d (.v (.bool A.bt.s)),.d (.v (.string A.bt.a)),.d (.v (.string A.bt.d)),.d (.list (List.map lk A.links))])],fun i=>i≤(rowsL l m o).length∧((rowsL l m o).take i).all (fun row=>(shbL A row A.links.length).all fun b=>clearB [cnr b] Wl)=true,fun i=>(rowsL l m o).length - i,0,?_,⟨Nat.zero_le _,rfl⟩,fun i hs=> ?_⟩
 ·constructor<;>(repeat' (first|exact rfl|exact True.intro|exact⟨_,_,rfl⟩|exact(by decide)|apply And.intro))
  all_goals first|exact congrArg (fun n:Int=>D.v (.int .i64 n)) (by omega)|exact congrArg (fun n:Int=>D.v (.int .i64 n)) (by rw [wrap64 _ (by omega) (by omega)];omega)|(simp;done)
 obtain⟨g1,g2⟩:=hs
 refine⟨fun e1=> ?_,fun e1=> ?_⟩
 ·have f23:(i:Int)< ((List.map rdvs (rowsL l m o)).length:Int):=of_decide_eq_true e1
  refine Zq (l:=(rowsL l m o)) (i:=i) (by first|omega|exact Nat.mod_lt _ (by omega)) fun x24 hx24=> ?_
  have hrx24:=Zmr hs2 hl.2 hm.2 x24 (List.mem_of_getElem? hx24)
  refine k_ix i [D.list (List.map rdv x24)] (by first|rfl|omega|(rw [wrap64 _ (by omega) (by omega)];omega)|(rw [wrap64 _ (by omega) (by omega)];split<;>omega)) (Zf hx24) rfl ?_
  refine Ztq (A:=A) (Q:=x24) hA2 hA0 (by rw [hrx24.1];exact hlA) hrx24.2 ?_
  have hsl:=ZdG A x24 A.links.length
  have hLb:(List.map rqB4 (shbL A x24 A.links.length)).length=(shbL A x24 A.links.length).length:=List.length_map ..
  refine⟨Nat,fun k=> [(3,.val (.one (.d (.list (List.map rdvs Wl))))),(5,.val (.one (.ptr 5 0))),(20,.val (.one (.d (.list (List.map rdvs (rowsL l m o)))))),(21,int ((List.map rdvs (rowsL l m o)).length:Int)),(22,int (i:Int)),(28,.val (.one (.d (.list (List.map rqB4 (shbL A x24 A.links.length)))))),(29,int ((List.map rqB4 (shbL A x24 A.links.length)).length:Int)),(30,int (k:Int))],
   fun k=> [(5,.var 32 [.d (.v (.string A.name)),.d (.v (.bool A.bx.s)),.d (.v (.string A.bx.a)),.d (.v (.string A.bx.d)),.d (.v (.bool A.by'.s)),.d (.v (.string A.by'.a)),.d (.v (.string A.by'.d)),.d (.v (.bool (A.bh))),.d (.v (.bool A.bt.s)),.d (.v (.string A.bt.a)),.d (.v (.string A.bt.d)),.d (.list (List.map lk A.links))])],fun k=>k≤(shbL A x24 A.links.length).length∧((shbL A x24 A.links.length).take k).all (fun b=>clearB [cnr b] Wl)=true,fun k=>(shbL A x24 A.links.length).length - k,0,?_,⟨Nat.zero_le _,rfl⟩,fun k hs=> ?_⟩
  ·constructor<;>(repeat' (first|exact rfl|exact True.intro|exact⟨_,_,rfl⟩|exact(by decide)|apply And.intro))
   all_goals first|exact congrArg (fun n:Int=>D.v (.int .i64 n)) (by omega)|exact congrArg (fun n:Int=>D.v (.int .i64 n)) (by rw [wrap64 _ (by omega) (by omega)];omega)|(simp;done)
  obtain⟨g3,g4⟩:=hs
  refine⟨fun e2=> ?_,fun e2=> ?_⟩
  ·have f31:(k:Int)< ((List.map rqB4 (shbL A x24 A.links.length)).length:Int):=of_decide_eq_true e2
   refine Zq (l:=(shbL A x24 A.links.length)) (i:=k) (by first|omega|exact Nat.mod_lt _ (by omega)) fun x32 hx32=> ?_
   have hzx32:=ZsJ hA0 x24 x32 (List.mem_of_getElem? hx32)
   refine k_ix k [D.v (.bool (decide (x32.xl.num< 0))),D.list (W (w32 x32.xl.num.natAbs)),D.list (W (w32 x32.xl.den)),D.v (.bool (decide (x32.xh.num< 0))),D.list (W (w32 x32.xh.num.natAbs)),D.list (W (w32 x32.xh.den)),D.v (.bool (decide (x32.yl.num< 0))),D.list (W (w32 x32.yl.num.natAbs)),D.list (W (w32 x32.yl.den)),D.v (.bool (decide (x32.yh.num< 0))),D.list (W (w32 x32.yh.num.natAbs)),D.list (W (w32 x32.yh.den))] (by first|rfl|omega|(rw [wrap64 _ (by omega) (by omega)];omega)|(rw [wrap64 _ (by omega) (by omega)];split<;>omega)) (Zf hx32) rfl ?_
   refine⟨by kernel_rfl,?_⟩
   refine Zp2 (L:= [cnr x32]) (W:=Wl) (Zsk hzx32) (by show 1≤1048576;omega) hW fun b61 hb61=> ?_
   refine⟨fun e3=> ?_,fun e3=> ?_⟩
   ·have f62:¬ (b61=true):=fun hh=>ZaG hh (Zcm e3)
    refine Eq.trans (b:=bool false) ?_ rfl
    have hp:provedB A (rowsL l m o) Wl=false:=ZaX (x:=x24) hx24 (ZaX (x:=x32) hx32 (by rw [← hb61];exact Bool.eq_false_iff.2 f62))
    rw [hp]
   ·have f62:¬ (¬ (b61=true)):=fun hh=>hh ((Zcn e3))
    refine⟨k+1,⟨by omega,by rw [ZaC hx32,g4,← hb61,Classical.not_not.1 f62];rfl⟩,by simp only;omega,?_⟩
    constructor<;>(repeat' (first|exact rfl|exact True.intro|apply And.intro))
    all_goals first
     |exact congrArg (fun n:Int=>D.v (.int .i64 n)) (by rw [wrap64 _ (by omega) (by omega)];omega)
     |exact congrArg (fun n:Int=>D.v (.int .i64 n)) (by omega)
  ·have f31:¬ ((k:Int)< ((List.map rqB4 (shbL A x24 A.links.length)).length:Int)):=of_decide_eq_false e2
   have hk1:k=(shbL A x24 A.links.length).length:=by omega
   have hall:((shbL A x24 A.links.length).all (fun b=>clearB [cnr b] Wl))=true:=by rw [← List.take_length (l:=shbL A x24 A.links.length),← hk1];exact g4
   refine⟨i+1,⟨by omega,by rw [ZaC hx24,g2,hall];rfl⟩,by simp only;omega,?_⟩
   constructor<;>(repeat' (first|exact rfl|exact True.intro|apply And.intro))
   all_goals first
    |exact congrArg (fun n:Int=>D.v (.int .i64 n)) (by rw [wrap64 _ (by omega) (by omega)];omega)
    |exact congrArg (fun n:Int=>D.v (.int .i64 n)) (by omega)
 ·have f23:¬ ((i:Int)< ((List.map rdvs (rowsL l m o)).length:Int)):=of_decide_eq_false e1
  refine Eq.trans (b:=bool true) ?_ rfl
  have hp:provedB A (rowsL l m o) Wl=true:=by
   have hi:i=(rowsL l m o).length:=by omega
   unfold provedB
   rw [← List.take_length (l:=rowsL l m o),← hi]
   exact g2
  rw [hp]
theorem Zhf {A:ArmV} {l m:List RV} {Wl:List (List (RV×RV))} {o:Int} (hA:A.ok) (hl:l.length≤1048576∧∀ x,x∈l→x.z≤1048576) (hm:m.length≤1048576∧∀ x,x∈m→x.z≤1048576) (hW:Wl.length≤1048576∧∀ m,m∈Wl→m.length≤1048576∧∀ p,p∈m→p.1.z≤1048576∧p.2.z≤1048576) (h0:motE A l m Wl o=0) (k:∀ b,b=provedB A (rowsL l m o) Wl→K (bool b)):Ask 179 [.val (.agg [.d (.v (.string A.name)),.d (.v (.bool A.bx.s)),.d (.v (.string A.bx.a)),.d (.v (.string A.bx.d)),.d (.v (.bool A.by'.s)),.d (.v (.string A.by'.a)),.d (.v (.string A.by'.d)),.d (.v (.bool (A.bh))),.d (.v (.bool A.bt.s)),.d (.v (.string A.bt.a)),.d (.v (.string A.bt.d)),.d (.list (List.map lk A.links))]),.val (.one (.d (.list (List.map rd l)))),.val (.one (.d (.list (List.map rd m)))),.val (.one (.d (.list (List.map rdvs Wl)))),int o] K:=use (ZhE A l m Wl o hA hl hm hW h0) rfl (k _ rfl)
end
end Go.Proofs.YtpfemjpgbpnpkaaGreatDoor.eng
