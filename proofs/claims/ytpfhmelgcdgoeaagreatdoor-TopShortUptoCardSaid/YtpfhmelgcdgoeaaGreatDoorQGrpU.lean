/- Joined by wip/bundle.py: XPlcA XMotA. -/
import Derived.Test.YtpfhmelgcdgoeaaGreatDoorQGrp1
set_option maxHeartbeats 4000000
set_option maxRecDepth 100000
open List (map length_map mem_of_getElem? take_length)
namespace Go.Proofs.YtpfhmelgcdgoeaaGreatDoor.eng
open Go.RowKit num mem seg q held ratA ratB ratC ratD ratE vars ratF trq
section
variable {K : AV → Prop}
theorem ZoL {l:List (RV×RV)} (hl:∀ p,p∈l→p.1.z≤260000000∧p.2.z≤260000000) (hn:l.length≤1073741824) (k:K (box (cn (bx1 l)) (cn (bx2 l)) (cn (bx3 l)) (cn (bx4 l)))):Ask 95 [Xl rdv l] K:=
 Zre hl hn fun p q r u h1 h2 h3 h4=>by subst h1 h2 h3 h4;exact k
theorem ZhZ (W:List (List (RV×RV))) (hW:W.length≤1048576∧∀ m,m∈W→m.length≤1048576∧∀ p,p∈m→p.1.z≤1048576∧p.2.z≤1048576):Spec Tryz.prog Tab 50 [Xl rdvs W] (int (wallsE W)):=by
 have hLw:(map rdvs W).length=W.length:=length_map ..
 have hW1:=hW.1
 refine Za Tryz.func50 rfl rfl Tryz.ntmps50 rfl ωr rfl rfl ?_
 refine⟨fun e1=> ?_,fun e1=> ?_⟩
 ·have f8:((map rdvs W).length:Int) >20:=of_decide_eq_true e1
  refine Eq.trans (b:=int 2) ?_ rfl
  rw [Zp9 ω]
 ·have f8:¬ (((map rdvs W).length:Int) >20):=of_decide_eq_false e1
  refine⟨Nat,fun i=> [(9,Xl rdvs W),(10,int ((map rdvs W).length:Int)),(11,int (i:Int))],
   fun i=> [],fun i=>i≤W.length∧∀ j,j< i→convE 8 ((W[j]?).getD [])=0,fun i=>W.length - i,0,?_,⟨Nat.zero_le _,fun j h=>ω⟩,fun i hs=> ?_⟩
  ·exact ωe
  obtain⟨g1,g2⟩:=hs
  refine⟨fun e2=> ?_,fun e2=> ?_⟩
  ·have f12:(i:Int)< ((map rdvs W).length:Int):=of_decide_eq_true e2
   refine get_ex (l:=W) (i:=i) ωm fun x13 hx13=> ?_
   have hwx13:=hW.2 x13 (mem_of_getElem? hx13)
   refine k_ix i [D.list (map rdv x13)] ωh (Zc hx13) rfl ?_
   refine Zkz (l:=x13) (fun p hp=>⟨Nat.le_trans (hwx13.2 p hp).1 ωd,Nat.le_trans (hwx13.2 p hp).2 ωd⟩) (Nat.le_trans hwx13.1 ωd) fun n16 hk_16_1=> ?_
   refine⟨fun e3=> ?_,fun e3=> ?_⟩
   ·have f18:n16≠0:=ZU e3
    refine Eq.trans (b:=int n16) ?_ rfl
    rw [Zmv ω hx13 g2 (by rw [← hk_16_1];exact f18),← hk_16_1]
   ·have f18:¬ (n16≠0):=fun hh=>hh (ZV e3)
    have hc0:convE 8 x13=0:=by rw [← hk_16_1];exact Classical.not_not.1 f18
    refine⟨i+1,⟨ω,fun j hj=>by
     by_cases e:j=i
     ·rw [e,hx13,Option.getD_some];exact hc0
     ·exact g2 j ω⟩,by simp only;omega,?_⟩
    constructor<;>(repeat' (first|exact rfl|exact True.intro|apply And.intro))
    all_goals first
     |exact ωb
     |exact ωa
  ·have f12:¬ ((i:Int)< ((map rdvs W).length:Int)):=of_decide_eq_false e2
   refine Eq.trans (b:=int 0) ?_ rfl
   rw [Zjt ω fun j hj=>g2 j ω]
theorem Zrd {W:List (List (RV×RV))} (hW:W.length≤1048576∧∀ m,m∈W→m.length≤1048576∧∀ p,p∈m→p.1.z≤1048576∧p.2.z≤1048576) (k:∀ n,n=wallsE W→K (int n)):Ask 50 [Xl rdvs W] K:=use (ZhZ W hW) rfl (k _ rfl)
theorem Zpa (L M:List (List (RV×RV))) (hL:∀ a,a∈L→okV a) (hM:∀ b,b∈M→okV b) (hnL:L.length≤1048576) (hnM:M.length≤1048576):Spec Tryz.prog Tab 53 [Xl rdvs L,Xl rdvs M] (bool (freeB L M)):=by
 have hL1:(map rdvs L).length=L.length:=length_map ..
 have hL2:(map rdvs M).length=M.length:=length_map ..
 refine Za Tryz.func53 rfl rfl Tryz.ntmps53 rfl ωr rfl rfl ?_
 refine⟨Nat,fun i=> [(1,Xl rdvs M),(11,Xl rdvs L),(12,int ((map rdvs L).length:Int)),(13,int (i:Int))],
  fun i=> [],fun i=>i≤L.length∧(L.take i).all (fun a=>M.all fun b=>sepB a b)=true,fun i=>L.length - i,0,?_,⟨Nat.zero_le _,rfl⟩,fun i hs=> ?_⟩
 ·exact ωe
 obtain⟨g1,g2⟩:=hs
 refine⟨fun e1=> ?_,fun e1=> ?_⟩
 ·have f14:(i:Int)< ((map rdvs L).length:Int):=of_decide_eq_true e1
  refine get_ex (l:=L) (i:=i) ωm fun x15 hx15=> ?_
  obtain⟨⟨hnx15,hcx15⟩,hvx15⟩:=hL x15 (mem_of_getElem? hx15)
  obtain⟨⟨bz1x15,bz2x15⟩,bz3x15,bz4x15⟩:=bx_z hvx15
  refine k_ix i [D.list (map rdv x15)] ωh (Zc hx15) rfl ?_
  refine⟨Nat,fun k=> [(1,Xl rdvs M),(6,Xl rdv x15),(11,Xl rdvs L),(12,int ((map rdvs L).length:Int)),(13,int (i:Int)),(17,Xl rdvs M),(18,int ((map rdvs M).length:Int)),(19,int (k:Int))],
   fun k=> [],fun k=>k≤M.length∧(M.take k).all (fun b=>sepB x15 b)=true,fun k=>M.length - k,0,?_,⟨Nat.zero_le _,rfl⟩,fun k hs=> ?_⟩
  ·exact ωe
  obtain⟨g3,g4⟩:=hs
  refine⟨fun e2=> ?_,fun e2=> ?_⟩
  ·have f20:(k:Int)< ((map rdvs M).length:Int):=of_decide_eq_true e2
   refine get_ex (l:=M) (i:=k) ωm fun x21 hx21=> ?_
   obtain⟨⟨hnx21,hcx21⟩,hvx21⟩:=hM x21 (mem_of_getElem? hx21)
   obtain⟨⟨bz1x21,bz2x21⟩,bz3x21,bz4x21⟩:=bx_z hvx21
   refine k_ix k [D.list (map rdv x21)] ωh (Zc hx21) rfl ?_
   refine ZoL (l:=x15) (fun p hp=>by have:=hvx15 p hp;omega) ω ?_
   refine ZoL (l:=x21) (fun p hp=>by have:=hvx21 p hp;omega) ω ?_
   refine Zrf ωn ωn ωn ωn ωn ωn ωn ωn fun b27 hb27=> ?_
   refine⟨fun e3=> ?_,fun e3=> ?_⟩
   ·have f28:¬ (bxMeet (cn (bx1 x15)) (cn (bx2 x15)) (cn (bx3 x15)) (cn (bx4 x15)) (cn (bx1 x21)) (cn (bx2 x21)) (cn (bx3 x21)) (cn (bx4 x21))):=of_decide_eq_false (hb27.symm.trans (Zcd e3))
    have hsp:sepB x15 x21=true:=Zg4 hcx15 hcx21 f28
    refine⟨k+1,⟨ω,by rw [ZdP hx21,g4,hsp];rfl⟩,by simp only;omega,?_⟩
    constructor<;>(repeat' (first|exact rfl|exact True.intro|apply And.intro))
    all_goals first
     |exact ωb
     |exact ωa
   ·have f28:¬ (¬ (bxMeet (cn (bx1 x15)) (cn (bx2 x15)) (cn (bx3 x15)) (cn (bx4 x15)) (cn (bx1 x21)) (cn (bx2 x21)) (cn (bx3 x21)) (cn (bx4 x21)))):=fun hh=>hh (of_decide_eq_true (hb27.symm.trans (Zce e3)))
    refine ZtQ (a:=x15) (b:=x21) (fun p hp=>by have:=hvx15 p hp;omega) (fun p hp=>by have:=hvx21 p hp;omega) ω ω fun n32 hk_32_1=> ?_
    refine fork (fun e4=> ?_) (fun e4=> ?_)
    ·have f36:meetB x15 x21=true:=e4
     refine⟨fun _=> ?_,fun e=>absurd e ωd⟩
     refine Eq.trans (b:=bool false) ?_ rfl
     have hsp:sepB x15 x21=false:=by
      have:=(Zei hcx15 hcx21).2
      rw [f36] at this
      cases hh:sepB x15 x21
      ·rfl
      ·rw [hh] at this;exact absurd this ωd
     have hfr:freeB L M=false:=ZeL hx15 (ZeL hx21 hsp)
     rw [hfr]
    ·have f36:¬ (meetB x15 x21=true):=fun hh=>Zct hh e4
     refine⟨fun e5=> ?_,fun e5=> ?_⟩
     ·have f39:n32≠0:=ZU e5
      exfalso
      exact f39 (by rw [hk_32_1];exact(Zei hcx15 hcx21).1)
     ·have f39:¬ (n32≠0):=fun hh=>hh (ZV e5)
      have hsp:sepB x15 x21=true:=by
       have:=(Zei hcx15 hcx21).2
       cases hh:sepB x15 x21
       ·rw [hh] at this;exact absurd this f36
       ·rfl
      refine⟨k+1,⟨ω,by rw [ZdP hx21,g4,hsp];rfl⟩,by simp only;omega,?_⟩
      constructor<;>(repeat' (first|exact rfl|exact True.intro|apply And.intro))
      all_goals first
       |exact ωb
       |exact ωa
  ·have f20:¬ ((k:Int)< ((map rdvs M).length:Int)):=of_decide_eq_false e2
   have hk1:k=M.length:=ω
   have hall:(M.all fun b=>sepB x15 b)=true:=by rw [← take_length (l:=M),← hk1];exact g4
   refine⟨i+1,⟨ω,by rw [ZdP hx15,g2,hall];rfl⟩,by simp only;omega,?_⟩
   constructor<;>(repeat' (first|exact rfl|exact True.intro|apply And.intro))
   all_goals first
    |exact ωb
    |exact ωa
 ·have f14:¬ ((i:Int)< ((map rdvs L).length:Int)):=of_decide_eq_false e1
  refine Eq.trans (b:=bool true) ?_ rfl
  have hfr:freeB L M=true:=by
   have hi:i=L.length:=ω
   unfold freeB
   rw [← take_length (l:=L),← hi];exact g2
  rw [hfr]
theorem ZvY {L M:List (List (RV×RV))} (hL:∀ a,a∈L→okV a) (hM:∀ b,b∈M→okV b) (hnL:L.length≤1048576) (hnM:M.length≤1048576) (k:K (bool (freeB L M))):Ask 53 [Xl rdvs L,Xl rdvs M] K:=use (Zpa L M hL hM hnL hnM) rfl k
theorem Zmt {W:List (List (RV×RV))} (h:wallsE W=0) (hz:∀ m,m∈W→m.length≤1048576∧∀ p,p∈m→p.1.z≤1048576∧p.2.z≤1048576):∀ a,a∈W→okV a:=fun a ha=>by
 have hc:=(Zmu h).2 a ha
 exact⟨⟨by have:=(Zan.1 hc).1;omega,Zug hc⟩,fun p hp=>by have:=(hz a ha).2 p hp;omega⟩
end
section
variable {K : AV → Prop}
theorem Zrh {l m:List RV} {o:Int} (ho:-9223372036854775808≤o∧o≤9223372036854775807) (hl:l.length≤1048576∧∀ x,x∈l→x.z≤1048576) (hm:m.length≤1048576∧∀ x,x∈m→x.z≤1048576) (k:∀ n,n=splitE l m o→K (.tup [.one (.d (.list (map rdvs (splitV l m o)))),.one (.d (.v (.int .i64 n)))])):Ask 49 [Xl rd l,Xl rd m,int o] K:=by
 have h:=Zmk l m o ho.1 ho.2 (fun x hx=>Nat.le_trans (hl.2 x hx) ωd) (fun x hx=>Nat.le_trans (hm.2 x hx) ωd) (Nat.le_trans hl.1 ωd) (Nat.le_trans hm.1 ωd)
 by_cases g:splitBad l m o
 ·rw [if_pos g] at h
  have k1:=k _ rfl
  rw [Zdu g,Zqh g] at k1
  exact use h rfl k1
 ·rw [if_neg g] at h
  have k1:=k _ rfl
  rw [Zdv g,ZjF g,rowsL,Zth] at k1
  exact use h rfl k1
theorem ZhJ (b:B4):Spec Tryz.prog Tab 52 [box (cn b.xl) (cn b.yl) (cn b.xh) (cn b.yh)] (Xl rdv (cvl (cnr b))):=by
 refine Za Tryz.func52 rfl rfl Tryz.ntmps52 rfl ωr rfl rfl ?_
 refine Eq.trans (b:= .val (.one (.d (.list ([[Yb (cn b.xl),Ys (cn b.xl),Yt (cn b.xl),Yb (cn b.yl),Ys (cn b.yl),Yt (cn b.yl)], [Yb (cn b.xh),Ys (cn b.xh),Yt (cn b.xh),Yb (cn b.yl),Ys (cn b.yl),Yt (cn b.yl)], [Yb (cn b.xh),Ys (cn b.xh),Yt (cn b.xh),Yb (cn b.yh),Ys (cn b.yh),Yt (cn b.yh)], [Yb (cn b.xl),Ys (cn b.xl),Yt (cn b.xl),Yb (cn b.yh),Ys (cn b.yh),Yt (cn b.yh)]]))))) ?_ rfl
 rfl
theorem ZoU {b:B4} (k:K (Xl rdv (cvl (cnr b)))):Ask 52 [box (cn b.xl) (cn b.yl) (cn b.xh) (cn b.yh)] K:=use (ZhJ b) rfl k
theorem ZlT {A:ArmV} {Q:List (RV×RV)} (hA:A.ok) (hQ:∀ p,p∈Q→p.1.z≤3145760∧p.2.z≤3145760) (h0:hasE A (Q.length:Int)=0) (k:K (.tup [.one (.d (.list (map rdB4 (shbL A Q A.links.length)))),.one (.d (.v (.int .i64 0)))])):Ask 51 [arm A,Xl rdv Q] K:=ZoH hA hQ fun n hn=>by rw [hn,h0,Zm9 h0];exact k
theorem ZtT {L M:List (List (RV×RV))} (hL:∀ a,a∈L→okV a) (hM:∀ b,b∈M→okV b) (hnL:L.length≤1048576) (hnM:M.length≤1048576) (k:∀ b,b=freeB L M→K (bool b)):Ask 53 [Xl rdvs L,Xl rdvs M] K:=ZvY hL hM hnL hnM (k _ rfl)
theorem Zjm (A:ArmV) (l m:List RV) (Wl:List (List (RV×RV))) (o:Int) (hA:A.ok) (hl:l.length≤1048576∧∀ x,x∈l→x.z≤1048576) (hm:m.length≤1048576∧∀ x,x∈m→x.z≤1048576) (hW:Wl.length≤1048576∧∀ m,m∈Wl→m.length≤1048576∧∀ p,p∈m→p.1.z≤1048576∧p.2.z≤1048576) (ho:-9223372036854775808≤o∧o≤9223372036854775807):Spec Tryz.prog Tab 23 [arm A,Xl rd l,Xl rd m,Xl rdvs Wl,int o] (.tup [.one (.d (.v (.bool (motB A l m Wl o)))),.one (.d (.v (.int .i64 (motE A l m Wl o))))]):=by
 have hA2:=hA
 have hLl:(map rd l).length=l.length:=length_map ..
 refine Za Tryz.func23 rfl rfl Tryz.ntmps23 rfl ωr rfl rfl ?_
 refine Zfo (A:=A) (n:=((map rd l).length:Int)) ωs fun n25 hk_25_1=> ?_
 rw [length_map] at hk_25_1
 refine⟨fun e1=> ?_,fun e1=> ?_⟩
 ·have f27:n25≠0:=ZU e1
  refine Eq.trans (b:= .tup [.one (.d (.v (.bool (false)))),.one (.d (.v (.int .i64 (n25))))]) ?_ rfl
  have hno:¬ hasE A (l.length:Int)=0:=by rw [← hk_25_1];exact f27
  rw [ZiJ (fun g=>hno (Zcf.1 g).1),Zkh hno,← hk_25_1]
  all_goals rfl
 ·have f27:¬ (n25≠0):=fun hh=>hh (ZV e1)
  refine Zrh (l:=l) (m:=m) (o:=o) ho hl hm fun n33 hk_33_1=> ?_
  refine⟨fun e2=> ?_,fun e2=> ?_⟩
  ·have f37:n33=0:=ZB e2
   refine Zrd (W:=Wl) hW fun n39 hk_39_1=> ?_
   refine⟨fun e3=> ?_,fun e3=> ?_⟩
   ·have f41:n39≠0:=ZU e3
    refine Eq.trans (b:= .tup [.one (.d (.v (.bool (false)))),.one (.d (.v (.int .i64 (n39))))]) ?_ rfl
    have h0:hasE A (l.length:Int)=0:=by rw [← hk_25_1];exact Classical.not_not.1 f27
    have hsb:¬ splitBad l m o:=ZgK.1 (by rw [← hk_33_1];exact f37)
    have hno:¬ wallsE Wl=0:=by rw [← hk_39_1];exact f41
    rw [ZiJ (fun g=>hno (Zcf.1 g).2.2),Zkg h0 hsb,← hk_39_1]
    all_goals rfl
   ·have f41:¬ (n39≠0):=fun hh=>hh (ZV e3)
    have h0:hasE A (l.length:Int)=0:=by rw [← hk_25_1];exact Classical.not_not.1 f27
    have hsb:¬ splitBad l m o:=ZgK.1 (by rw [← hk_33_1];exact f37)
    have hw0:wallsE Wl=0:=by rw [← hk_39_1];exact Classical.not_not.1 f41
    have hV:=ZjF hsb
    have hA0:=(Z3.1 h0).1
    have hlen0:=(Z3.1 h0).2
    have hn3:=(Zad hA0).1
    have hfM:=Zmt hw0 hW.2
    have hM0:motE A l m Wl o=0:=Zcf.2 ⟨h0,hsb,hw0⟩
    have hVl:(splitV l m o).length≤50:=by rw [hV,Zno];have:=ZfO hsb;omega
    have hLV:(map rdvs (splitV l m o)).length=(splitV l m o).length:=length_map ..
    refine⟨Nat,fun i=> [(3,Xl rdvs Wl),(5,.val (.one (.ptr 5 0))),(43,Xl rdvs (splitV l m o)),(44,int ((map rdvs (splitV l m o)).length:Int)),(45,int (i:Int))],
     fun i=> [(5,.var 34 [.d (.v (.string A.name)),Xb A.bx,Xs A.bx,Xt A.bx,Xb A.by',Xs A.by',Xt A.by',.d (.v (.bool (A.bh))),Xb A.bt,Xs A.bt,Xt A.bt,.d (.list (map lk A.links))])],fun i=>i≤(splitV l m o).length∧((splitV l m o).take i).all (fun row=>freeB (cnrs (shbL A row A.links.length)) Wl)=true,fun i=>(splitV l m o).length - i,0,?_,⟨Nat.zero_le _,rfl⟩,fun i hs=> ?_⟩
    ·exact ωe
    obtain⟨g1,g2⟩:=hs
    refine⟨fun e4=> ?_,fun e4=> ?_⟩
    ·have f46:(i:Int)< ((map rdvs (splitV l m o)).length:Int):=of_decide_eq_true e4
     refine get_ex (l:=(splitV l m o)) (i:=i) ωm fun x47 hx47=> ?_
     have hrx47:=Ztg hsb hl.2 hm.2 x47 (mem_of_getElem? (by rw [← hV];exact hx47))
     refine k_ix i [D.list (map rdv x47)] ωf (Zc hx47) rfl ?_
     refine ZlT (A:=A) (Q:=x47) hA2 hrx47.2 (by rw [hrx47.1];exact h0) ?_
     refine⟨fun e=>absurd e ωd,fun _=> ?_⟩
     have hsl:=ZjL A x47 A.links.length
     have hLb:(map rdB4 (shbL A x47 A.links.length)).length=A.links.length:=by rw [length_map,hsl]
     refine⟨Nat,fun k=> [(3,Xl rdvs Wl),(5,.val (.one (.ptr 5 0))),(19,.val (.one (.row 68 0))),(43,Xl rdvs (splitV l m o)),(44,int ((map rdvs (splitV l m o)).length:Int)),(45,int (i:Int)),(58,Xl rdB4 (shbL A x47 A.links.length)),(59,int ((map rdB4 (shbL A x47 A.links.length)).length:Int)),(60,int (k:Int))],
      fun k=> [(5,.var 34 [.d (.v (.string A.name)),Xb A.bx,Xs A.bx,Xt A.bx,Xb A.by',Xs A.by',Xt A.by',.d (.v (.bool (A.bh))),Xb A.bt,Xs A.bt,Xt A.bt,.d (.list (map lk A.links))]),(68,.row 62 1 0 (map rdvs (cnrs ((shbL A x47 A.links.length).take k))) true)],fun k=>k≤(shbL A x47 A.links.length).length,fun k=>(shbL A x47 A.links.length).length - k,0,?_,Nat.zero_le _,fun k hs=> ?_⟩
     ·exact ωe
     have hT:(map rdvs (cnrs ((shbL A x47 A.links.length).take k))).length≤3:=by rw [length_map,ZkV,List.length_take];omega
     refine⟨fun e5=> ?_,fun e5=> ?_⟩
     ·have f61:(k:Int)< ((map rdB4 (shbL A x47 A.links.length)).length:Int):=of_decide_eq_true e5
      refine get_ex (l:=(shbL A x47 A.links.length)) (i:=k) ωm fun x62 hx62=> ?_
      refine k_ix k [Yb (cn x62.xl),Ys (cn x62.xl),Yt (cn x62.xl),Yb (cn x62.yl),Ys (cn x62.yl),Yt (cn x62.yl),Yb (cn x62.xh),Ys (cn x62.xh),Yt (cn x62.xh),Yb (cn x62.yh),Ys (cn x62.yh),Yt (cn x62.yh)] ωf (Zc hx62) rfl ?_
      refine ZoU (b:=x62) ?_
      refine⟨⟨row1 rfl,(by show ((map rdvs (cnrs ((shbL A x47 A.links.length).take k))).length+1)*24≤_;omega),(by show ((map rdvs (cnrs ((shbL A x47 A.links.length).take k))).length+1)≤_;omega)⟩,?_⟩
      refine⟨k+1,ω,by simp only;omega,?_⟩
      constructor<;>(repeat' (first|exact rfl|exact True.intro|apply And.intro))
      all_goals first
       |(rw [ZpE hx62];rfl)
       |exact ωb
       |exact ωa
     ·have f61:¬ ((k:Int)< ((map rdB4 (shbL A x47 A.links.length)).length:Int)):=of_decide_eq_false e5
      have htk:(shbL A x47 A.links.length).take k=shbL A x47 A.links.length:=List.take_of_length_le ω
      refine ZtT (L:=cnrs ((shbL A x47 A.links.length).take k)) (M:=Wl) (by rw [htk];exact Zuh hA0 _) hfM (by rw [ZkV,htk];omega) hW.1 fun b72 hb72=> ?_
      rw [htk] at hb72
      refine⟨fun e6=> ?_,fun e6=> ?_⟩
      ·have f73:¬ (b72=true):=fun hh=>Zct hh (Zcd e6)
       refine Eq.trans (b:= .tup [.one (.d (.v (.bool (false)))),.one (.d (.v (.int .i64 (0))))]) ?_ rfl
       have hp:provedB A (rowsL l m o) Wl=false:=ZeL (x:=x47) (by rw [← hV];exact hx47) (by rw [← ZhK,← hb72];exact Bool.eq_false_iff.2 f73)
       rw [ZiI hM0,hM0,hp]
       all_goals rfl
      ·have f73:¬ (¬ (b72=true)):=fun hh=>hh ((Zce e6))
       refine⟨i+1,⟨ω,by rw [ZdP hx47,g2];show (true&&freeB (cnrs (shbL A x47 A.links.length)) Wl)=true;rw [← hb72,Classical.not_not.1 f73];rfl⟩,by simp only;omega,?_⟩
       constructor<;>(repeat' (first|exact rfl|exact True.intro|apply And.intro))
       all_goals first
        |exact ωb
        |exact ωa
    ·have f46:¬ ((i:Int)< ((map rdvs (splitV l m o)).length:Int)):=of_decide_eq_false e4
     refine Eq.trans (b:= .tup [.one (.d (.v (.bool (true)))),.one (.d (.v (.int .i64 (0))))]) ?_ rfl
     have hi:i=(splitV l m o).length:=ω
     have hp:provedB A (rowsL l m o) Wl=true:=by
      rw [← hV]
      unfold provedB
      rw [show (fun row=>(shbL A row A.links.length).all fun b=>clearB [cnr b] Wl)=(fun row=>freeB (cnrs (shbL A row A.links.length)) Wl) from funext fun row=>(ZhK A row Wl).symm,← take_length (l:=splitV l m o),← hi]
      exact g2
     rw [ZiI hM0,hM0,hp]
     all_goals rfl
  ·have f37:¬ (n33=0):=ZC e2
   refine⟨fun e7=> ?_,fun e7=> ?_⟩
   ·have f41:n33≠0:=ZU e7
    refine Eq.trans (b:= .tup [.one (.d (.v (.bool (false)))),.one (.d (.v (.int .i64 (n33))))]) ?_ rfl
    have h0:hasE A (l.length:Int)=0:=by rw [← hk_25_1];exact Classical.not_not.1 f27
    have hsb:splitBad l m o:=Classical.not_not.1 fun g=>f37 (by rw [hk_33_1];exact Zdv g)
    rw [ZiJ (fun g=>(Zcf.1 g).2.1 hsb),Zki h0 hsb,hk_33_1,Zdu hsb]
    all_goals rfl
   ·have f41:¬ (n33≠0):=fun hh=>hh (ZV e7)
    exfalso
    exact f37 (Classical.not_not.1 f41)
theorem Zgm {A:ArmV} {l m:List RV} {Wl:List (List (RV×RV))} {o:Int} (hA:A.ok) (hl:l.length≤1048576∧∀ x,x∈l→x.z≤1048576) (hm:m.length≤1048576∧∀ x,x∈m→x.z≤1048576) (hW:Wl.length≤1048576∧∀ m,m∈Wl→m.length≤1048576∧∀ p,p∈m→p.1.z≤1048576∧p.2.z≤1048576) (ho:-9223372036854775808≤o∧o≤9223372036854775807) (k:∀ b n,b=motB A l m Wl o→n=motE A l m Wl o→K (.tup [.one (.d (.v (.bool b))),.one (.d (.v (.int .i64 n)))])):Ask 23 [arm A,Xl rd l,Xl rd m,Xl rdvs Wl,int o] K:=use (Zjm A l m Wl o hA hl hm hW ho) rfl (k _ _ rfl rfl)
end
