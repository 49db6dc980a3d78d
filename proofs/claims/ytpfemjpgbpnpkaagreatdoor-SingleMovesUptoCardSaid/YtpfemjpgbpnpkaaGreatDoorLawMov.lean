/- Contract of gantlaw3.SingleMoves: it returns true. Printed by wip/gp_move.py. -/
import Derived.Test.YtpfemjpgbpnpkaaGreatDoorGrp6
namespace Go.Proofs.YtpfemjpgbpnpkaaGreatDoor.eng
open Go.RowKit num mem seg q held ratA ratB ratC ratD ratE vars ratF argopen trq
section
variable {K : AV → Prop}
theorem vel32:velX (sampA [3,2]) (natRV [0,0]) (natRV [1,0])=cn n0Q∧velY (sampA [3,2]) (natRV [0,0]) (natRV [1,0])=cn ((10:Nat):Rat):=by
 have h:=Zdi (l:= [3,2]) (k:=((natRV [0,0]).length:Int)) (by decide) (by decide) (by decide) rfl
 have hc:=cols32
 rw [Zab h] at hc
 have c0:colF (sampA [3,2]) (natRV [0,0]) 0=(n0Q,((5:Nat):Rat)):=(List.cons.inj hc).1
 have c1:colF (sampA [3,2]) (natRV [0,0]) 1=(n0Q,n2Q):=(List.cons.inj (List.cons.inj hc).2).1
 obtain⟨e1,e2⟩:=Znb (V:=natRV [1,0]) h rfl
 have q0:qAt (natRV [0,0]) 0=0:=cn_q _
 have q1:qAt (natRV [0,0]) 1=0:=cn_q _
 have v0:qAt (natRV [1,0]) 0=1:=cn_q _
 have v1:qAt (natRV [1,0]) 1=0:=cn_q _
 have hv:velF (sampA [3,2]) (natRV [0,0]) (natRV [1,0]) 2=(n0Q,((10:Nat):Rat)):=by
  unfold velF velF velF
  rw [c0,c1,q0,q1,v0,v1]
  decide+kernel
 rw [e1,e2]
 exact⟨congrArg (fun p:Rat×Rat=>cn p.1) hv,congrArg (fun p:Rat×Rat=>cn p.2) hv⟩
theorem ZgI {A:ArmV} {Q:List RV} (hA:armE A=0) (hQ:∀ x,x∈Q→x.z≤1048576) (hN:nullW (colsF A Q A.links.length)≠none):∀ x,x∈stL Q (nW A Q) A.links.length→qs x≤745000000:=by
 intro x hx
 obtain⟨i,hi,rfl⟩:=List.mem_map.1 hx
 have hw:qs (wgt (nW A Q) i)≤738211831:=by
  unfold wgt
  cases e:(nW A Q)[i]? with
  |none=>exact Nat.le_trans (show qs (0:Rat)≤8 by decide+kernel) (by decide)
  |some y=>exact ZjA (Zc6 hA hQ) (Zmb hN) y (List.mem_of_getElem? e)
 have h1:=Zrl (qAt Q i) 1
 have:qs (1:Rat)≤8:=by decide+kernel
 have:=qAt_z2 hQ i
 have:=ZaQ (wgt (nW A Q) i) (rtQ (qAt Q i) 1)
 show qs (wgt (nW A Q) i / rtQ (qAt Q i) 1)≤_
 omega
theorem Zx4 {A:ArmV} {Q:List RV} (hA:armE A=0) (hQ:∀ x,x∈Q→x.z≤1048576) {W:List Rat} (hW:∀ i,qs (wgt W i)≤738211831) (h3:A.links.length≤3) (h:dotF (colsF A Q A.links.length) W A.links.length=(0,0)):
  ∀ i,i≤A.links.length→qs (dotF (colsF A Q A.links.length) W i).1≤1000000000∧qs (dotF (colsF A Q A.links.length) W i).2≤1000000000:=by
 have q0:qs (0:Rat)≤8:=by decide+kernel
 have tz:∀ i,qs ((pAt (colsF A Q A.links.length) i).1*wgt W i)≤922764788∧qs ((pAt (colsF A Q A.links.length) i).2*wgt W i)≤922764788:=fun i=>by
  have h1:=Zh5 (Zc6 hA hQ) i
  have:=hW i
  have:=Zt (pAt (colsF A Q A.links.length) i).1 (wgt W i)
  have:=Zt (pAt (colsF A Q A.links.length) i).2 (wgt W i)
  exact⟨by omega,by omega⟩
 have z0:qs (dotF (colsF A Q A.links.length) W 0).1≤8∧qs (dotF (colsF A Q A.links.length) W 0).2≤8:=⟨q0,q0⟩
 have z1:qs (dotF (colsF A Q A.links.length) W 1).1≤922764800∧qs (dotF (colsF A Q A.links.length) W 1).2≤922764800:=by
  have e1:(dotF (colsF A Q A.links.length) W 1).1=(pAt (colsF A Q A.links.length) 0).1*wgt W 0:=Rat.zero_add _
  have e2:(dotF (colsF A Q A.links.length) W 1).2=(pAt (colsF A Q A.links.length) 0).2*wgt W 0:=Rat.zero_add _
  rw [e1,e2]
  have:=tz 0
  exact⟨by omega,by omega⟩
 have zn:qs (dotF (colsF A Q A.links.length) W A.links.length).1≤8∧qs (dotF (colsF A Q A.links.length) W A.links.length).2≤8:=by rw [h];exact⟨q0,q0⟩
 intro i hi
 by_cases e0:i=0
 ·rw [e0];exact⟨by omega,by omega⟩
 by_cases e1:i=1
 ·rw [e1];exact⟨by omega,by omega⟩
 by_cases en:i=A.links.length
 ·rw [en];exact⟨by omega,by omega⟩
 have e3:A.links.length=3:=by omega
 have e2:i=2:=by omega
 rw [e2]
 have hd:dotF (colsF A Q A.links.length) W 3=(0,0):=by rw [e3] at h ⊢;exact h
 have d1:(dotF (colsF A Q A.links.length) W 2).1+(pAt (colsF A Q A.links.length) 2).1*wgt W 2=0:=congrArg Prod.fst hd
 have d2:(dotF (colsF A Q A.links.length) W 2).2+(pAt (colsF A Q A.links.length) 2).2*wgt W 2=0:=congrArg Prod.snd hd
 have f1:(dotF (colsF A Q A.links.length) W 2).1=-((pAt (colsF A Q A.links.length) 2).1*wgt W 2):=by grind
 have f2:(dotF (colsF A Q A.links.length) W 2).2=-((pAt (colsF A Q A.links.length) 2).2*wgt W 2):=by grind
 rw [f1,f2,Zdn,Zdn]
 have:=tz 2
 exact⟨by omega,by omega⟩
theorem ZnJ {A:ArmV} {Q:List RV} (hA:armE A=0) (hQ:∀ x,x∈Q→x.z≤1048576) (hN:nullW (colsF A Q A.links.length)≠none):
  velB A Q (cnL (stL Q (nW A Q) A.links.length))∧velF A Q (cnL (stL Q (nW A Q) A.links.length)) A.links.length=(0,0)∧∃ i,i< A.links.length∧wgt (stL Q (nW A Q) A.links.length) i≠0:=by
 have hn:=(ZE hA).1
 obtain⟨h1,h2,i,h3,h4⟩:=ZoD (by rw [Zn];exact hn) (Zmb hN)
 rw [Zn] at h1 h2 h3
 have hw:∀ i,qs (wgt (nW A Q) i)≤738211831:=fun i=>by
  unfold wgt
  cases e:(nW A Q)[i]? with
  |none=>exact Nat.le_trans (show qs (0:Rat)≤8 by decide+kernel) (by decide)
  |some y=>exact ZjA (Zc6 hA hQ) (Zmb hN) y (List.mem_of_getElem? e)
 refine⟨fun j hj=>⟨?_,fun hj2=> ?_⟩,?_,i,h3,?_⟩
 ·rw [Zna A Q (nW A Q) A.links.length j hj]
  exact Zx4 hA hQ hw hn h2 j hj
 ·rw [Ztw Q (nW A Q) hj2,Zup]
  exact Nat.le_trans (hw j) (by decide)
 ·rw [Zna A Q (nW A Q) A.links.length _ (Nat.le_refl _)];exact h2
 ·have e:wgt (stL Q (nW A Q) A.links.length) i=stQ (qAt Q i) (wgt (nW A Q) i):=by
   have:(stL Q (nW A Q) A.links.length)[i]? =some (stQ (qAt Q i) (wgt (nW A Q) i)):=by
    unfold stL
    rw [List.getElem?_map,List.getElem?_range h3];rfl
   exact Zky this
  rw [e]
  exact ZxB h4
theorem Zxf {W:List Rat} {B:Nat} (h:∀ x,x∈W→qs x≤B):∀ x,x∈cnL W→x.z≤B:=fun x hx=>by
 obtain⟨y,hy,rfl⟩:=List.mem_map.1 hx
 exact h y hy
set_option maxHeartbeats 8000000 in
set_option maxRecDepth 100000 in
theorem Zeo (A:ArmV) (Q V:List RV) (x y:RV) (hA:A.ok) (hQ:∀ x,x∈Q→x.z≤1048576) (hV:∀ x,x∈V→x.z≤1048576) (hx:x.z≤1048576) (hy:y.z≤1048576):Spec Tryz.prog Tab 7 [.val (.agg [.d (.v (.string A.name)),.d (.v (.bool A.bx.s)),.d (.v (.string A.bx.a)),.d (.v (.string A.bx.d)),.d (.v (.bool A.by'.s)),.d (.v (.string A.by'.a)),.d (.v (.string A.by'.d)),.d (.v (.bool (A.bh))),.d (.v (.bool A.bt.s)),.d (.v (.string A.bt.a)),.d (.v (.string A.bt.d)),.d (.list (List.map lk A.links))]),.val (.one (.d (.list (List.map rd Q)))),.val (.one (.d (.list (List.map rd V)))),rat x,rat y] (bool true):=by
 have hA2:=hA
 have hL:(List.map lk A.links).length=A.links.length:=List.length_map ..
 have hLq:(List.map rd Q).length=Q.length:=List.length_map ..
 have hLv:(List.map rd V).length=V.length:=List.length_map ..
 have o32:(sampA [3,2]).ok:=Zbj (Zex (by decide) (by decide)) (by decide)
 have a32:armE (sampA [3,2])=0:=ZbI (by decide) (by decide) (by decide)
 have b32:∀ x,x∈natRV [0,0]→x.z≤1048576:=Zto (by decide)
 have b10:∀ x,x∈natRV [1,0]→x.z≤1048576:=Zto (by decide)
 have c32:hasE (sampA [3,2]) ((natRV [0,0]).length:Int)=0:=Zdi (by decide) (by decide) (by decide) rfl
 have hx1:=x.z1
 have hy1:=y.z1
 refine Za Tryz.func7 rfl rfl Tryz.ntmps7 rfl (by kernel_rfl) rfl rfl ?_
 refine ZeD [3,2] rfl (by decide) (by decide) ?_
 refine Zcd [0,0] rfl (by decide) (by decide) ?_
 refine Zcd [1,0] rfl (by decide) (by decide) ?_
 refine ZwP (A:=sampA [3,2]) (Q:=natRV [0,0]) (V:=natRV [1,0]) o32 b32 b10 fun n27 hk_27_1=> ?_
 obtain rfl:=hk_27_1.trans (Znc c32 rfl)
 refine use (Zh2 Zfb (ZbN 10 (by decide))) rfl ?_
 refine ZbQ vel32 ?_
 refine⟨by kernel_rfl,?_⟩
 refine⟨fun e=>absurd e (by decide),fun _=> ?_⟩
 refine Zpk (x:=x) (y:=y) (by omega) (by omega) fun q39 h39 z39=> ?_
 simp only [cn_z] at z39
 refine Zr (x:=x) (by omega) fun q41 h41 z41=> ?_
 refine Zr (x:=y) (by omega) fun q43 h43 z43=> ?_
 refine Zpn (p:=q41) (q:=q43) (by omega) (by omega) fun q44 h44 z44=> ?_
 refine ZfS (q:=q44) (by omega) ?_
 refine ZbR (by rw [h39,h44,h41,h43]) ?_
 refine⟨by kernel_rfl,?_⟩
 refine⟨fun e=>absurd e (by decide),fun _=> ?_⟩
 refine Zd0 (A:=A) (n:=((List.map rd Q).length:Int)) (by assumption) fun n50 hk_50_1=> ?_
 rw [List.length_map] at hk_50_1
 refine Zu2 (A:=A) (Q:=Q) hA2 hQ fun n54 hk_54_1=> ?_
 refine ZwP (A:=A) (Q:=Q) (V:=V) hA2 hQ hV fun n61 hk_61_1=> ?_
 refine⟨fun e3=> ?_,fun e3=> ?_⟩
 ·have f65:n50≠0:=Zv e3
  have hno:¬ hasE A (Q.length:Int)=0:=by rw [← hk_50_1];exact f65
  refine fork (fun e4=> ?_) (fun e4=> ?_)
  ·have f69:n54=n50:=ZP e4
   refine fork (fun e5=> ?_) (fun e5=> ?_)
   ·have f74:n61=n50:=ZP e5
    refine fork (fun e6=> ?_) (fun e6=> ?_)
    ·have f79:((List.map rdc (stillV A Q)).length:Int)=0:=ZP e6
     refine Za7 (ZkA fun g=>hno g.1) ?_
     refine Eq.trans (b:=bool true) ?_ rfl
     rfl
    ·have f79:¬ (((List.map rdc (stillV A Q)).length:Int)=0):=ZQ e6
     exfalso
     exact f79 (by rw [(Zet hno).2];rfl)
   ·have f74:¬ (n61=n50):=ZQ e5
    exfalso
    exact f74 (by rw [hk_61_1,hk_50_1];exact Ztd hno)
  ·have f69:¬ (n54=n50):=ZQ e4
   exfalso
   exact f69 (by rw [hk_54_1,hk_50_1];exact(Zet hno).1)
 ·have f65:¬ (n50≠0):=fun hh=>hh (Zw e3)
  have h0:hasE A (Q.length:Int)=0:=by rw [← hk_50_1];exact Classical.not_not.1 f65
  have hA0:=(ZI.1 h0).1
  have hlen0:=(ZI.1 h0).2
  have hlen:Q.length=A.links.length:=by omega
  have hn3:=(ZE hA0).1
  have hLc:(List.map rqP (colsF A Q A.links.length)).length=A.links.length:=by rw [List.length_map,Zn]
  refine⟨fun e8=> ?_,fun e8=> ?_⟩
  ·have f88:((List.map rd V).length:Int)≠((List.map rd Q).length:Int):=Zv e8
   have hV1:¬ V.length=Q.length:=by omega
   refine fork (fun e9=> ?_) (fun e9=> ?_)
   ·have f91:n61≠1:=Zv e9
    exfalso
    exact f91 (by rw [hk_61_1];exact Zte h0 hV1)
   ·have f91:¬ (n61≠1):=fun hh=>hh (Zw e9)
    refine ZbQ (ZkA fun g=>hV1 g.2) ?_
    refine⟨fun e=>absurd e (by decide),fun _=> ?_⟩
    refine ZjM (A:=A) (Q:=Q) (by assumption) hA0 hlen (by assumption) ?_
    refine Zpo (l:=colsF A Q A.links.length) (Zc6 hA0 hQ) (by rw [Zn];omega) fun n111 hk_111_1=> ?_
    refine⟨fun e11=> ?_,fun e11=> ?_⟩
    ·have f114:n111=((List.map rqP (colsF A Q A.links.length)).length:Int):=ZP e11
     have hnr:=Zdr (l:=colsF A Q A.links.length) (by rw [Zn];exact List.length_pos_iff.2 (ZE hA0).2.1) (by rw [Zn];exact hn3)
     rw [Zn] at hnr
     have hN:nullW (colsF A Q A.links.length)=none:=hnr.2 (by rw [← hk_111_1];omega)
     refine fork (fun e12=> ?_) (fun e12=> ?_)
     ·have f117:n54=4:=ZP e12
      refine Eq.trans (b:=bool (((List.map rdc (stillV A Q)).length:Int)==0)) ?_ rfl
      rw [(ZeS h0 hN).2];rfl
     ·have f117:¬ (n54=4):=ZQ e12
      exfalso
      exact f117 (by rw [hk_54_1];exact(ZeS h0 hN).1)
    ·have f114:¬ (n111=((List.map rqP (colsF A Q A.links.length)).length:Int)):=ZQ e11
     have hnr:=Zdr (l:=colsF A Q A.links.length) (by rw [Zn];exact List.length_pos_iff.2 (ZE hA0).2.1) (by rw [Zn];exact hn3)
     rw [Zn] at hnr
     have hN:nullW (colsF A Q A.links.length)≠none:=fun e=>f114 (by have:=hnr.1 e;rw [← hk_111_1] at this;omega)
     have hst:=Zi4 h0 hN
     have hsb:=ZnJ hA0 hQ hN
     refine fork (fun e13=> ?_) (fun e13=> ?_)
     ·have f124:n54≠0:=Zv e13
      exfalso
      exact f124 (by rw [hk_54_1];exact hst.1)
     ·have f124:¬ (n54≠0):=fun hh=>hh (Zw e13)
      refine⟨fun e14=> ?_,fun e14=> ?_⟩
      ·have f130:((List.map rdc (stillV A Q)).length:Int)≠((List.map rd Q).length:Int):=Zv e14
       exfalso
       exact f130 (by rw [List.length_map,hst.2,ZbH];omega)
      ·have f130:¬ (((List.map rdc (stillV A Q)).length:Int)≠((List.map rd Q).length:Int)):=fun hh=>hh (Zw e14)
       refine use (Zfb) rfl ?_
       refine use (Zfb) rfl ?_
       refine Zpl (A:=A) (Q:=Q) (V:=cnL (stL Q (nW A Q) A.links.length)) (by rw [Zt6,hst.2]) hA2 hA0 hlen hQ (Zxf fun x hx=>Nat.le_trans (ZgI hA0 hQ hN x hx) (by decide)) (by show (List.map cn _).length=_;rw [List.length_map,ZbH]) hsb.1 ?_
       refine Zpr (p:=(velF A Q (cnL (stL Q (nW A Q) A.links.length)) A.links.length).1) (q:=(velF A Q (cnL (stL Q (nW A Q) A.links.length)) A.links.length).2) (by rw [hsb.2.1];decide+kernel) (by rw [hsb.2.1];decide+kernel) ?_
       refine Za7 ⟨by rw [hsb.2.1];rfl,by rw [hsb.2.1];rfl⟩ ?_
       refine use (Zlv (stillV A Q) (by rw [hst.2,ZbH];omega) (fun x hx=>Nat.le_trans (ZgI hA0 hQ hN x (by rw [← hst.2];exact hx)) (by decide)) (by rw [hst.2,ZbH];exact hsb.2.2)) rfl ?_
       refine⟨by kernel_rfl,?_⟩
       refine Eq.trans (b:=bool true) ?_ rfl
       rfl
  ·have f88:¬ (((List.map rd V).length:Int)≠((List.map rd Q).length:Int)):=fun hh=>hh (Zw e8)
   have hVl:V.length=Q.length:=by omega
   refine fork (fun e16=> ?_) (fun e16=> ?_)
   ·have f98:n61≠0:=Zv e16
    exfalso
    exact f98 (by rw [hk_61_1];exact Znc h0 hVl)
   ·have f98:¬ (n61≠0):=fun hh=>hh (Zw e16)
    refine Zpl (A:=A) (Q:=Q) (V:=V) rfl hA2 hA0 hlen hQ (fun x hx=>Nat.le_trans (hV x hx) (by decide)) (by omega) (ZgD hA0 hQ hV) ?_
    refine Zpr (p:=(velF A Q V A.links.length).1) (q:=(velF A Q V A.links.length).2) (by have:=(ZgD hA0 hQ hV _ (Nat.le_refl _)).1;omega) (by have:=(ZgD hA0 hQ hV _ (Nat.le_refl _)).1;omega) ?_
    refine ZbQ (Znb h0 hVl) ?_
    refine⟨by kernel_rfl,?_⟩
    refine⟨fun e=>absurd e (by decide),fun _=> ?_⟩
    refine ZjM (A:=A) (Q:=Q) (by assumption) hA0 hlen (by assumption) ?_
    refine Zpo (l:=colsF A Q A.links.length) (Zc6 hA0 hQ) (by rw [Zn];omega) fun n111 hk_111_1=> ?_
    refine⟨fun e18=> ?_,fun e18=> ?_⟩
    ·have f114:n111=((List.map rqP (colsF A Q A.links.length)).length:Int):=ZP e18
     have hnr:=Zdr (l:=colsF A Q A.links.length) (by rw [Zn];exact List.length_pos_iff.2 (ZE hA0).2.1) (by rw [Zn];exact hn3)
     rw [Zn] at hnr
     have hN:nullW (colsF A Q A.links.length)=none:=hnr.2 (by rw [← hk_111_1];omega)
     refine fork (fun e19=> ?_) (fun e19=> ?_)
     ·have f117:n54=4:=ZP e19
      refine Eq.trans (b:=bool (((List.map rdc (stillV A Q)).length:Int)==0)) ?_ rfl
      rw [(ZeS h0 hN).2];rfl
     ·have f117:¬ (n54=4):=ZQ e19
      exfalso
      exact f117 (by rw [hk_54_1];exact(ZeS h0 hN).1)
    ·have f114:¬ (n111=((List.map rqP (colsF A Q A.links.length)).length:Int)):=ZQ e18
     have hnr:=Zdr (l:=colsF A Q A.links.length) (by rw [Zn];exact List.length_pos_iff.2 (ZE hA0).2.1) (by rw [Zn];exact hn3)
     rw [Zn] at hnr
     have hN:nullW (colsF A Q A.links.length)≠none:=fun e=>f114 (by have:=hnr.1 e;rw [← hk_111_1] at this;omega)
     have hst:=Zi4 h0 hN
     have hsb:=ZnJ hA0 hQ hN
     refine fork (fun e20=> ?_) (fun e20=> ?_)
     ·have f124:n54≠0:=Zv e20
      exfalso
      exact f124 (by rw [hk_54_1];exact hst.1)
     ·have f124:¬ (n54≠0):=fun hh=>hh (Zw e20)
      refine⟨fun e21=> ?_,fun e21=> ?_⟩
      ·have f130:((List.map rdc (stillV A Q)).length:Int)≠((List.map rd Q).length:Int):=Zv e21
       exfalso
       exact f130 (by rw [List.length_map,hst.2,ZbH];omega)
      ·have f130:¬ (((List.map rdc (stillV A Q)).length:Int)≠((List.map rd Q).length:Int)):=fun hh=>hh (Zw e21)
       refine use (Zfb) rfl ?_
       refine use (Zfb) rfl ?_
       refine Zpl (A:=A) (Q:=Q) (V:=cnL (stL Q (nW A Q) A.links.length)) (by rw [Zt6,hst.2]) hA2 hA0 hlen hQ (Zxf fun x hx=>Nat.le_trans (ZgI hA0 hQ hN x hx) (by decide)) (by show (List.map cn _).length=_;rw [List.length_map,ZbH]) hsb.1 ?_
       refine Zpr (p:=(velF A Q (cnL (stL Q (nW A Q) A.links.length)) A.links.length).1) (q:=(velF A Q (cnL (stL Q (nW A Q) A.links.length)) A.links.length).2) (by rw [hsb.2.1];decide+kernel) (by rw [hsb.2.1];decide+kernel) ?_
       refine Za7 ⟨by rw [hsb.2.1];rfl,by rw [hsb.2.1];rfl⟩ ?_
       refine use (Zlv (stillV A Q) (by rw [hst.2,ZbH];omega) (fun x hx=>Nat.le_trans (ZgI hA0 hQ hN x (by rw [← hst.2];exact hx)) (by decide)) (by rw [hst.2,ZbH];exact hsb.2.2)) rfl ?_
       refine⟨by kernel_rfl,?_⟩
       refine Eq.trans (b:=bool true) ?_ rfl
       rfl
theorem singleMoves_walk (v0:Value) (A0:ArmV) (v1:Value) (l1:List RV) (v2:Value) (l2:List RV) (s3:Bool) (a3 d3:ByteArray) (s4:Bool) (a4 d4:ByteArray) (N:Nat) (w:World) (_:1≤N) (hN:N≤1048576) (h0:DenAV w (fun b=>b< w.heap.size) noBs noMem v0 (arm A0)) (u0:A0.zs N) (h1:Den w (fun b=>b< w.heap.size) v1 (.list (l1.map eng.rd))) (u1:ratsZ l1 N) (h2:Den w (fun b=>b< w.heap.size) v2 (.list (l2.map eng.rd))) (u2:ratsZ l2 N) (_:a3.size≤N) (_:d3.size≤N) (_:a4.size≤N) (_:d4.size≤N) (hT:Tab w):
  Calls Tryz.prog 7 #[v0,v1,v2,.agg #[.bool s3,.string a3,.string d3],.agg #[.bool s4,.string a4,.string d4]] w fun e w'=>e= .returned (.bool true)∧Below w.heap.size w w':=
 Zar (I:=fun b=>b< w.heap.size) (Zeo A0 l1 l2 ⟨s3,a3,d3⟩ ⟨s4,a4,d4⟩ (Zbj u0 (by omega)) (fun x hx=>Nat.le_trans (u1.2 x hx) (by omega)) (fun x hx=>Nat.le_trans (u2.2 x hx) (by omega)) (by unfold RV.z;simp only;omega) (by unfold RV.z;simp only;omega)) rfl hT (fun _ h=>h)
  ((((((ZdU (vs:= []) rfl).cons ((Zb8 (v:=rat ⟨s4,a4,d4⟩) rfl).2 rfl)).cons ((Zb8 (v:=rat ⟨s3,a3,d3⟩) rfl).2 rfl)).cons (show DenAV _ _ _ _ v2 (.val (.one (.d (.list _)))) from h2)).cons (show DenAV _ _ _ _ v1 (.val (.one (.d (.list _)))) from h1)).cons h0)
end
end Go.Proofs.YtpfemjpgbpnpkaaGreatDoor.eng
