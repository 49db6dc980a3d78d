/- Joined by wip/bundle.py: XPlcA XMotA XPlcR XMotR. -/
import Derived.Test.YtnhfpbcbhnfeaaaGreatDoorQGrp1
set_option maxHeartbeats 4000000
set_option maxRecDepth 100000
open List (length_map mem_of_getElem? take_length)
namespace Go.Proofs.YtnhfpbcbhnfeaaaGreatDoor.eng
open Go.RowKit num mem seg q held ratA ratB ratC ratD ratE vars ratF trq
section
variable{K:AV->Prop}
theorem Zqm{l:List (RV×RV)}(hl:∀p,p∈l->p.1.z<=260000000/\p.2.z<=260000000)(hn:l.length<=1073741824)(k:K (box (cn (bx1 l)) (cn (bx2 l)) (cn (bx3 l)) (cn (bx4 l)))):Ask 109 [Xl rdv l] K:=
 ZtC hl hn fun p q r u h1 h2 h3 h4=>by subst h1 h2 h3 h4;exact k
theorem Ztx{W:List (List (RV×RV))}(hW:W.length<=1048576/\∀m,m∈W->m.length<=1048576/\∀p,p∈m->p.1.z<=1048576/\p.2.z<=1048576)(k:∀n,n=wallsE W->K (int n)):Ask 60 [Xl rdvs W] K:=use2 (k _ rfl) (by
 have hLw:(W.map rdvs).length=W.length:=length_map ..;have hW1:=hW.1;refine Zb Tryz.func60 Tryz.ntmps60 ?_;refine⟨fun e1=>?_,fun e1=>?_⟩
 .have f8:((W.map rdvs).length:Int) >20:=oT e1;refine Eq.trans (b:=int 2) ?_ rfl;rw[ZkG ω]
 .have f8:¬(((W.map rdvs).length:Int) >20):=oF e1;refine⟨Nat,fun i=>[(9,Xl rdvs W),(10,int ((W.map rdvs).length:Int)),(11,int (i:Int))],
   fun i=>[],fun i=>i<=W.length/\∀j,j<i->convE 8 ((W[j]?).getD [])=0,fun i=>W.length-i,0,?_,⟨Nat.zero_le _,fun j h=>ω⟩,fun i hs=>?_⟩
  .exact ωe
  obtain⟨g1,g2⟩:=hs;refine⟨fun e2=>?_,fun e2=>?_⟩
  .have f12:(i:Int)<((W.map rdvs).length:Int):=oT e2;refine Zm (l:=W) (i:=i) ωm fun x13 hx13=>?_;have hwx13:=hW.2 x13 (mG hx13);refine k_ix i _ ωh (Zd hx13) rfl<|ZlC (l:=x13) (fun p hp=>⟨Nat.le_trans (hwx13.2 p hp).1 ωd,Nat.le_trans (hwx13.2 p hp).2 ωd⟩) (Nat.le_trans hwx13.1 ωd) fun n16 hk_16_1=>⟨fun e3=>?_,fun e3=>?_⟩
   .have f18:n16≠0:=ZO e3;refine Eq.trans (b:=int n16) ?_ rfl;rw[ZhH ω hx13 g2 (by rw[<-hk_16_1];exact f18),<-hk_16_1]
   .have f18:¬(n16≠0):=fun hh=>hh (ZP e3);have hc0:convE 8 x13=0:=by rw[<-hk_16_1];exact nN f18
    refine⟨i+1,⟨ω,fun j hj=>by
     by_cases e:j=i
     .rw[e,hx13,Option.getD_some];exact hc0
     .exact g2 j ω⟩,by simp only;omega,?_⟩
    exact ωE
  .have f12:¬((i:Int)<((W.map rdvs).length:Int)):=oF e2;refine Eq.trans (b:=int 0) ?_ rfl;rw[Zgq ω fun j hj=>g2 j ω]
 ) rfl
theorem ZyR{L M:List (List (RV×RV))}(hL:∀a,a∈L->okV a)(hM:∀b,b∈M->okV b)(hnL:L.length<=1048576)(hnM:M.length<=1048576)(k:K (bool (freeB L M))):Ask 63 [Xl rdvs L,Xl rdvs M] K:=use2 k (by
 have hL1:(L.map rdvs).length=L.length:=length_map ..;have hL2:(M.map rdvs).length=M.length:=length_map ..;refine Zb Tryz.func63 Tryz.ntmps63 ?_;refine⟨Nat,fun i=>[(1,Xl rdvs M),(11,Xl rdvs L),(12,int ((L.map rdvs).length:Int)),(13,int (i:Int))],
  fun i=>[],fun i=>i<=L.length/\(L.take i).all (fun a=>M.all fun b=>sepB a b)=true,fun i=>L.length-i,0,?_,⟨Nat.zero_le _,rfl⟩,fun i hs=>?_⟩
 .exact ωe
 obtain⟨g1,g2⟩:=hs;refine⟨fun e1=>?_,fun e1=>?_⟩
 .have f14:(i:Int)<((L.map rdvs).length:Int):=oT e1;refine Zm (l:=L) (i:=i) ωm fun x15 hx15=>?_;obtain⟨⟨hnx15,hcx15⟩,hvx15⟩:=hL x15 (mG hx15);obtain⟨⟨bz1x15,bz2x15⟩,bz3x15,bz4x15⟩:=bx_z hvx15;refine k_ix i _ ωh (Zd hx15) rfl ?_;refine⟨Nat,fun k=>[(1,Xl rdvs M),(6,Xl rdv x15),(11,Xl rdvs L),(12,int ((L.map rdvs).length:Int)),(13,int (i:Int)),(17,Xl rdvs M),(18,int ((M.map rdvs).length:Int)),(19,int (k:Int))],
   fun k=>[],fun k=>k<=M.length/\(M.take k).all (fun b=>sepB x15 b)=true,fun k=>M.length-k,0,?_,⟨Nat.zero_le _,rfl⟩,fun k hs=>?_⟩
  .exact ωe
  obtain⟨g3,g4⟩:=hs;refine⟨fun e2=>?_,fun e2=>?_⟩
  .have f20:(k:Int)<((M.map rdvs).length:Int):=oT e2;refine Zm (l:=M) (i:=k) ωm fun x21 hx21=>?_;obtain⟨⟨hnx21,hcx21⟩,hvx21⟩:=hM x21 (mG hx21);obtain⟨⟨bz1x21,bz2x21⟩,bz3x21,bz4x21⟩:=bx_z hvx21;refine k_ix k _ ωh (Zd hx21) rfl<|Zqm (l:=x15) (fun p hp=>by have:=hvx15 p hp;omega) ω<|Zqm (l:=x21) (fun p hp=>by have:=hvx21 p hp;omega) ω<|ZtF ωn ωn ωn ωn ωn ωn ωn ωn fun b27 hb27=>⟨fun e3=>?_,fun e3=>?_⟩
   .have f28:¬(bxMeet (cn (bx1 x15)) (cn (bx2 x15)) (cn (bx3 x15)) (cn (bx4 x15)) (cn (bx1 x21)) (cn (bx2 x21)) (cn (bx3 x21)) (cn (bx4 x21))):=oF (hb27.symm.trans (Zbu e3));have hsp:sepB x15 x21=true:=Zh7 hcx15 hcx21 f28;exact⟨k+1,⟨ω,by rw[ZaK hx21,g4,hsp];rfl⟩,by simp only;omega,ωE⟩
   .have f28:¬(¬(bxMeet (cn (bx1 x15)) (cn (bx2 x15)) (cn (bx3 x15)) (cn (bx4 x15)) (cn (bx1 x21)) (cn (bx2 x21)) (cn (bx3 x21)) (cn (bx4 x21)))):=fun hh=>hh (oT (hb27.symm.trans (Zbv e3)));refine ZwJ (a:=x15) (b:=x21) (fun p hp=>by have:=hvx15 p hp;omega) (fun p hp=>by have:=hvx21 p hp;omega) ω ω fun n32 hk_32_1=> fork (fun e4=>?_) (fun e4=>?_)
    .have f36:meetB x15 x21=true:=e4;refine⟨fun _=> Eq.trans (b:=bool false) ?_ rfl,fun e=>absurd e ωd⟩;have hsp:sepB x15 x21=false:=by
      have:=(ZeS hcx15 hcx21).2;rw[f36]at this;cases hh:sepB x15 x21
      .rfl
      .rw[hh]at this;exact absurd this ωd
     have hfr:freeB L M=false:=Za8 hx15 (Za8 hx21 hsp);rw[hfr]
    .have f36:¬(meetB x15 x21=true):=fun hh=>Zbs hh e4;refine⟨fun e5=>?_,fun e5=>?_⟩
     .have a0:n32≠0:=ZO e5;exfalso;exact a0 (by rw[hk_32_1];exact(ZeS hcx15 hcx21).1)
     .have a0:¬(n32≠0):=fun hh=>hh (ZP e5);have hsp:sepB x15 x21=true:=by
       have:=(ZeS hcx15 hcx21).2;cases hh:sepB x15 x21
       .rw[hh]at this;exact absurd this f36
       .rfl
      exact⟨k+1,⟨ω,by rw[ZaK hx21,g4,hsp];rfl⟩,by simp only;omega,ωE⟩
  .have f20:¬((k:Int)<((M.map rdvs).length:Int)):=oF e2;have hk1:k=M.length:=ω;have hall:(M.all fun b=>sepB x15 b)=true:=by rw[<-take_length (l:=M),<-hk1];exact g4
   exact⟨i+1,⟨ω,by rw[ZaK hx15,g2,hall];rfl⟩,by simp only;omega,ωE⟩
 .have f14:¬((i:Int)<((L.map rdvs).length:Int)):=oF e1;refine Eq.trans (b:=bool true) ?_ rfl;have hfr:freeB L M=true:=by
   have hi:i=L.length:=ω;unfold freeB;rw[<-take_length (l:=L),<-hi];exact g2
  rw[hfr]
 ) rfl
theorem ZnW{W:List (List (RV×RV))}(h:wallsE W=0)(hz:∀m,m∈W->m.length<=1048576/\∀p,p∈m->p.1.z<=1048576/\p.2.z<=1048576):∀a,a∈W->okV a:=fun a ha=>by
 have hc:=(ZnX h).2 a ha;exact⟨⟨by have:=(ZaV.1 hc).1;omega,Zxe hc⟩,fun p hp=>by have:=(hz a ha).2 p hp;omega⟩
end
section
variable{K:AV->Prop}
theorem ZtI{l m:List RV}{o:Int}(ho:-9223372036854775808<=o/\o<=9223372036854775807)(hl:l.length<=1048576/\∀x,x∈l->x.z<=1048576)(hm:m.length<=1048576/\∀x,x∈m->x.z<=1048576)(k:∀n,n=splitE l m o->K (.tup [.one (.d (.list ((splitV l m o).map rdvs))),.one (.d (.v (.int .i64 n)))])):Ask 59 [Xl rd l,Xl rd m,int o] K:=by
 have h:=Znx l m o ho.1 ho.2 (fun x hx=>Nat.le_trans (hl.2 x hx) ωd) (fun x hx=>Nat.le_trans (hm.2 x hx) ωd) (Nat.le_trans hl.1 ωd) (Nat.le_trans hm.1 ωd);by_cases g:splitBad l m o
 .rw[if_pos g]at h;have k1:=k _ rfl;rw[Zed g,Zsp g]at k1;exact use h rfl k1
 .rw[if_neg g]at h;have k1:=k _ rfl;rw[Zee g,ZkP g,rowsL,Zo8]at k1;exact use h rfl k1
theorem ZiV(b:B4):Spec Tryz.prog Tab 62 [box (cn b.xl) (cn b.yl) (cn b.xh) (cn b.yh)] (Xl rdv (cvl (cnr b))):=by
 refine Zb Tryz.func62 Tryz.ntmps62 ?_;refine Eq.trans (b:=.val (.one (.d (.list ([Y1 (cn b.xl)<|Y1 (cn b.yl) [], Y1 (cn b.xh)<|Y1 (cn b.yl) [], Y1 (cn b.xh)<|Y1 (cn b.yh) [], Y1 (cn b.xl)<|Y1 (cn b.yh) []]))))) ?_ rfl;rfl
theorem Zqt{b:B4}(k:K (Xl rdv (cvl (cnr b)))):Ask 62 [box (cn b.xl) (cn b.yl) (cn b.xh) (cn b.yh)] K:=use (ZiV b) rfl k
theorem Zm6{A:ArmV}{Q:List (RV×RV)}(hA:A.ok)(hQ:∀p,p∈Q->p.1.z<=3145760/\p.2.z<=3145760)(h0:hasE A (Q.length:Int)=0)(k:K (.tup [.one (.d (.list ((shbL A Q A.links.length).map rdB4))),.one (.d (.v (.int .i64 0)))])):Ask 61 [arm A,Xl rdv Q] K:=Zqi hA hQ fun n hn=>by rw[hn,h0,ZoE h0];exact k
theorem ZwK{L M:List (List (RV×RV))}(hL:∀a,a∈L->okV a)(hM:∀b,b∈M->okV b)(hnL:L.length<=1048576)(hnM:M.length<=1048576)(k:∀b,b=freeB L M->K (bool b)):Ask 63 [Xl rdvs L,Xl rdvs M] K:=ZyR hL hM hnL hnM (k _ rfl)
theorem Zhe{A:ArmV}{l m:List RV}{Wl:List (List (RV×RV))}{o:Int}(hA:A.ok)(hl:l.length<=1048576/\∀x,x∈l->x.z<=1048576)(hm:m.length<=1048576/\∀x,x∈m->x.z<=1048576)(hW:Wl.length<=1048576/\∀m,m∈Wl->m.length<=1048576/\∀p,p∈m->p.1.z<=1048576/\p.2.z<=1048576)(ho:-9223372036854775808<=o/\o<=9223372036854775807)(k:∀b n,b=motB A l m Wl o->n=motE A l m Wl o->K (.tup [.one (.d (.v (.bool b))),.one (.d (.v (.int .i64 n)))])):Ask 19 [arm A,Xl rd l,Xl rd m,Xl rdvs Wl,int o] K:=use2 (k _ _ rfl rfl) (by
 have hA2:=hA;have hLl:(l.map rd).length=l.length:=length_map ..;refine Zb Tryz.func19 Tryz.ntmps19 ?_;refine ZqE (A:=A) (n:=((l.map rd).length:Int)) ωs fun n25 hk_25_1=>?_;rw[length_map]at hk_25_1;refine⟨fun e1=>?_,fun e1=>?_⟩
 .have f27:n25≠0:=ZO e1;refine Eq.trans (b:=.tup [.one (.d (.v (.bool (false)))),.one (.d (.v (.int .i64 (n25))))]) ?_ rfl;have hno:¬hasE A (l.length:Int)=0:=by rw[<-hk_25_1];exact f27
  rw[ZjT (fun g=>hno (ZdG.1 g).1),Zlk hno,<-hk_25_1]
  all_goals rfl
 .have f27:¬(n25≠0):=fun hh=>hh (ZP e1);refine ZtI (l:=l) (m:=m) (o:=o) ho hl hm fun n33 a2=>⟨fun e2=>?_,fun e2=>?_⟩
  .have a1:n33=0:=ZaW e2;refine Ztx (W:=Wl) hW fun n39 a4=>⟨fun e3=>?_,fun e3=>?_⟩
   .have a0:n39≠0:=ZO e3;refine Eq.trans (b:=.tup [.one (.d (.v (.bool (false)))),.one (.d (.v (.int .i64 (n39))))]) ?_ rfl;have h0:hasE A (l.length:Int)=0:=by rw[<-hk_25_1];exact nN f27
    have hsb:¬splitBad l m o:=ZhR.1 (by rw[<-a2];exact a1);have hno:¬wallsE Wl=0:=by rw[<-a4];exact a0
    rw[ZjT (fun g=>hno (ZdG.1 g).2.2),Zg6 h0 hsb,<-a4]
    all_goals rfl
   .have a0:¬(n39≠0):=fun hh=>hh (ZP e3);have h0:hasE A (l.length:Int)=0:=by rw[<-hk_25_1];exact nN f27
    have hsb:¬splitBad l m o:=ZhR.1 (by rw[<-a2];exact a1);have hw0:wallsE Wl=0:=by rw[<-a4];exact nN a0
    have hV:=ZkP hsb;have hA0:=(ZaG.1 h0).1;have hlen0:=(ZaG.1 h0).2;have hn3:=(Zy hA0).1;have hfM:=ZnW hw0 hW.2;have hM0:motE A l m Wl o=0:=ZdG.2 ⟨h0,hsb,hw0⟩;have hVl:(splitV l m o).length<=50:=by rw[hV,Zia];have:=ZgA hsb;omega
    have hLV:((splitV l m o).map rdvs).length=(splitV l m o).length:=length_map ..;refine⟨Nat,fun i=>[(3,Xl rdvs Wl),(5,.val (.one (.ptr 5 0))),(43,Xl rdvs (splitV l m o)),(44,int (((splitV l m o).map rdvs).length:Int)),(45,int (i:Int))],
     fun i=>[(5,.var 32 (aC A))],fun i=>i<=(splitV l m o).length/\((splitV l m o).take i).all (fun row=>freeB (cnrs (shbL A row A.links.length)) Wl)=true,fun i=>(splitV l m o).length-i,0,?_,⟨Nat.zero_le _,rfl⟩,fun i hs=>?_⟩
    .exact ωe
    obtain⟨g1,g2⟩:=hs;refine⟨fun e4=>?_,fun e4=>?_⟩
    .have a7:(i:Int)<(((splitV l m o).map rdvs).length:Int):=oT e4;refine Zm (l:=(splitV l m o)) (i:=i) ωm fun x47 a3=>?_;have hrx47:=ZoZ hsb hl.2 hm.2 x47 (mG (by rw[<-hV];exact a3));refine k_ix i _ ωf (Zd a3) rfl<|Zm6 (A:=A) (Q:=x47) hA2 hrx47.2 (by rw[hrx47.1];exact h0) ⟨fun e=>absurd e ωd,fun _=>?_⟩;have hsl:=Zeg A x47 A.links.length;have hLb:((shbL A x47 A.links.length).map rdB4).length=A.links.length:=by rw[length_map,hsl]
     refine⟨Nat,fun k=>[(3,Xl rdvs Wl),(5,.val (.one (.ptr 5 0))),(19,.val (.one (.row 68 0))),(43,Xl rdvs (splitV l m o)),(44,int (((splitV l m o).map rdvs).length:Int)),(45,int (i:Int)),(58,Xl rdB4 (shbL A x47 A.links.length)),(59,int (((shbL A x47 A.links.length).map rdB4).length:Int)),(60,int (k:Int))],
      fun k=>[(5,.var 32 (aC A)),(68,.row 54 1 0 ((cnrs ((shbL A x47 A.links.length).take k)).map rdvs) true)],fun k=>k<=(shbL A x47 A.links.length).length,fun k=>(shbL A x47 A.links.length).length-k,0,?_,Nat.zero_le _,fun k hs=>?_⟩
     .exact ωe
     have hT:((cnrs ((shbL A x47 A.links.length).take k)).map rdvs).length<=3:=by rw[length_map,Zl3,List.length_take];omega
     refine⟨fun e5=>?_,fun e5=>?_⟩
     .have a8:(k:Int)<(((shbL A x47 A.links.length).map rdB4).length:Int):=oT e5;refine Zm (l:=(shbL A x47 A.links.length)) (i:=k) ωm fun x62 a6=> k_ix k _ ωf (Zd a6) rfl<|Zqt (b:=x62) ⟨⟨row1 rfl,(by show (((cnrs ((shbL A x47 A.links.length).take k)).map rdvs).length+1)*24<=_;omega),(by show (((cnrs ((shbL A x47 A.links.length).take k)).map rdvs).length+1)<=_;omega)⟩,⟨k+1,ω,by simp only;omega,?_⟩⟩;constructor<;>(repeat' apply And.intro)<;>first|exact ωq|(rw[Zrt a6];rfl)
     .have a8:¬((k:Int)<(((shbL A x47 A.links.length).map rdB4).length:Int)):=oF e5;have htk:(shbL A x47 A.links.length).take k=shbL A x47 A.links.length:=List.take_of_length_le ω;refine ZwK (L:=cnrs ((shbL A x47 A.links.length).take k)) (M:=Wl) (by rw[htk];exact Zxf hA0 _) hfM (by rw[Zl3,htk];omega) hW.1 fun b72 hb72=>?_;rw[htk]at hb72;refine⟨fun e6=>?_,fun e6=>?_⟩
      .have a5:¬(b72=true):=fun hh=>Zbs hh (Zbu e6);refine Eq.trans (b:=.tup [.one (.d (.v (.bool (false)))),.one (.d (.v (.int .i64 (0))))]) ?_ rfl;have hp:provedB A (rowsL l m o) Wl=false:=Za8 (x:=x47) (by rw[<-hV];exact a3) (by rw[<-ZiW,<-hb72];exact Bool.eq_false_iff.2 a5);rw[ZeQ hM0,hM0,hp]
       all_goals rfl
      .have a5:¬(¬(b72=true)):=fun hh=>hh ((Zbv e6));exact⟨i+1,⟨ω,by rw[ZaK a3,g2];show (true&&freeB (cnrs (shbL A x47 A.links.length)) Wl)=true;rw[<-hb72,nN a5];rfl⟩,by simp only;omega,ωE⟩
    .have a7:¬((i:Int)<(((splitV l m o).map rdvs).length:Int)):=oF e4;refine Eq.trans (b:=.tup [.one (.d (.v (.bool (true)))),.one (.d (.v (.int .i64 (0))))]) ?_ rfl;have hi:i=(splitV l m o).length:=ω;have hp:provedB A (rowsL l m o) Wl=true:=by
      rw[<-hV];unfold provedB;rw[show (fun row=>(shbL A row A.links.length).all fun b=>clearB [cnr b] Wl)=(fun row=>freeB (cnrs (shbL A row A.links.length)) Wl) from funext fun row=>(ZiW A row Wl).symm,<-take_length (l:=splitV l m o),<-hi];exact g2
     rw[ZeQ hM0,hM0,hp]
     all_goals rfl
  .have a1:¬(n33=0):=ZaX e2;refine⟨fun e7=>?_,fun e7=>?_⟩
   .have a0:n33≠0:=ZO e7;refine Eq.trans (b:=.tup [.one (.d (.v (.bool (false)))),.one (.d (.v (.int .i64 (n33))))]) ?_ rfl;have h0:hasE A (l.length:Int)=0:=by rw[<-hk_25_1];exact nN f27
    have hsb:splitBad l m o:=nN fun g=>a1 (by rw[a2];exact Zee g);rw[ZjT (fun g=>(ZdG.1 g).2.1 hsb),Zll h0 hsb,a2,Zed hsb]
    all_goals rfl
   .have a0:¬(n33≠0):=fun hh=>hh (ZP e7);exfalso;exact a1 (nN a0)
 ) rfl
end
section
variable{K:AV->Prop}
theorem ZtK{W:List (List (RV×RV))}(hW:W.length<=1048576/\∀m,m∈W->m.length<=1048576/\∀p,p∈m->p.1.z<=1048576/\p.2.z<=1048576)(k:∀n,n=wallsE W->K (int n)):Ask 6 [Xl rdvs W] K:=use2 (k _ rfl) (by
 have hLw:(W.map rdvs).length=W.length:=length_map ..;have hW1:=hW.1;refine Zb Tryz.func6 Tryz.ntmps6 ?_;refine⟨fun e1=>?_,fun e1=>?_⟩
 .have f8:((W.map rdvs).length:Int) >20:=oT e1;refine Eq.trans (b:=int 2) ?_ rfl;rw[ZkG ω]
 .have f8:¬(((W.map rdvs).length:Int) >20):=oF e1;refine⟨Nat,fun i=>[(9,Xl rdvs W),(10,int ((W.map rdvs).length:Int)),(11,int (i:Int))],
   fun i=>[],fun i=>i<=W.length/\∀j,j<i->convE 8 ((W[j]?).getD [])=0,fun i=>W.length-i,0,?_,⟨Nat.zero_le _,fun j h=>ω⟩,fun i hs=>?_⟩
  .exact ωe
  obtain⟨g1,g2⟩:=hs;refine⟨fun e2=>?_,fun e2=>?_⟩
  .have f12:(i:Int)<((W.map rdvs).length:Int):=oT e2;refine Zm (l:=W) (i:=i) ωm fun x13 hx13=>?_;have hwx13:=hW.2 x13 (mG hx13);refine k_ix i _ ωh (Zd hx13) rfl<|ZcP (l:=x13) (fun p hp=>⟨Nat.le_trans (hwx13.2 p hp).1 ωd,Nat.le_trans (hwx13.2 p hp).2 ωd⟩) (Nat.le_trans hwx13.1 ωd) fun n16 hk_16_1=>⟨fun e3=>?_,fun e3=>?_⟩
   .have f18:n16≠0:=ZO e3;refine Eq.trans (b:=int n16) ?_ rfl;rw[ZhH ω hx13 g2 (by rw[<-hk_16_1];exact f18),<-hk_16_1]
   .have f18:¬(n16≠0):=fun hh=>hh (ZP e3);have hc0:convE 8 x13=0:=by rw[<-hk_16_1];exact nN f18
    refine⟨i+1,⟨ω,fun j hj=>by
     by_cases e:j=i
     .rw[e,hx13,Option.getD_some];exact hc0
     .exact g2 j ω⟩,by simp only;omega,?_⟩
    exact ωE
  .have f12:¬((i:Int)<((W.map rdvs).length:Int)):=oF e2;refine Eq.trans (b:=int 0) ?_ rfl;rw[Zgq ω fun j hj=>g2 j ω]
 ) rfl
def swA(m n:List (Rat×Rat))(c:Nat):List (Rat×Rat):=if c%2=0 then m else n
theorem sw_s(m n:List (Rat×Rat))(c:Nat):swA m n (c+1)=swA n m c:=by
 unfold swA;by_cases h:c%2=0
 .rw[if_pos h,if_neg ω]
 .rw[if_neg h,if_pos ω]
def qz(m:List (Rat×Rat)):Prop:=m.length<=1048576/\∀p,p∈m->qs p.1<=260000000/\qs p.2<=260000000
theorem sw_z{m n:List (Rat×Rat)}(hm:qz m)(hn:qz n)(c:Nat):qz (swA m n c):=by
 unfold swA;split<;>assumption
theorem ZwT{m n:List (Rat×Rat)}(hm:qz m)(hn:qz n)(k:∀b,b=meetR m n->K (bool b)):Ask 127 [Xl rqP m,Xl rqP n] K:=use2 (k _ rfl) (by
 refine Zb Tryz.func127 Tryz.ntmps127 ?_;refine⟨Nat,fun c=>[(0,Xl rqP (swA m n c)),(1,Xl rqP (swA n m c)),(11,int (c:Int))],
  fun c=>[],fun c=>c<=2/\∀j,j<c->bydB (swA m n j) (swA n m j)=false,fun c=>2-c,0,?_,⟨Nat.zero_le _,fun j h=>ω⟩,fun c hs=>?_⟩
 .exact ωe
 obtain⟨g1,g2⟩:=hs;have hzA:=sw_z hm hn c;have hzB:=sw_z hn hm c;have hA1:=hzA.1;have hB1:=hzB.1;have hLA:((swA m n c).map rqP).length=(swA m n c).length:=length_map ..;have hLB:((swA n m c).map rqP).length=(swA n m c).length:=length_map ..;refine⟨fun e1=>?_,fun e1=>?_⟩
 .have f12:(c:Int)<2:=oT e1;refine⟨Nat,fun i=>[(0,Xl rqP (swA m n c)),(1,Xl rqP (swA n m c)),(11,int (c:Int)),(13,Xl rqP (swA m n c)),(14,int (((swA m n c).map rqP).length:Int)),(15,int (i:Int))],
   fun i=>[],fun i=>i<=(swA m n c).length/\∀j,j<i->sdU (swA m n c) (swA n m c) j (swA n m c).length=false,fun i=>(swA m n c).length-i,0,?_,⟨Nat.zero_le _,fun j h=>ω⟩,fun i hs=>?_⟩
  .exact ωe
  obtain⟨g3,g4⟩:=hs;refine⟨fun e2=>?_,fun e2=>?_⟩
  .have f16:(i:Int)<(((swA m n c).map rqP).length:Int):=oT e2;refine Zm (l:=(swA m n c)) (i:=i) ωm fun x18 hx18=>?_;obtain⟨hq1x18,hq2x18⟩:=hzA.2 x18 (mG hx18);refine k_ix i _ ωh (Zd hx18) rfl ?_;refine Zf3 (i+1) ((swA m n c).length) ωh ωh ω ?_;refine Zm (l:=(swA m n c)) (i:=((i+1)%(swA m n c).length)) ωm fun x26 hx26=>?_;obtain⟨hq1x26,hq2x26⟩:=hzA.2 x26 (mG hx26);refine k_ix ((i+1)%(swA m n c).length) (P1 x26.1<|P1 x26.2 []) ωh (Zd hx26) rfl ?_;refine ZlA (p:=x26.1) (q:=x26.2) (r:=x18.1) (u:=x18.2) ω ω ω ω (fun ya29 yb29 hk_29_2 hk_29_3 hk_29_4 hk_29_5=>?_);refine⟨ωr,?_⟩;refine⟨Nat,fun k=>[(0,Xl rqP (swA m n c)),(1,Xl rqP (swA n m c)),(6,.val (.one (.ptr 6 0))),(7,.val (.one (.ptr 7 0))),(8,bool (sdU (swA m n c) (swA n m c) i k)),(11,int (c:Int)),(13,Xl rqP (swA m n c)),(14,int (((swA m n c).map rqP).length:Int)),(15,int (i:Int)),(30,Xl rqP (swA n m c)),(31,int (((swA n m c).map rqP).length:Int)),(32,int (k:Int))],
    fun k=>[(6,.var 100 (Q1 x18.1<|Q1 x18.2 [])),(7,.var 100 (Q1 ya29<|Q1 yb29 []))],fun k=>k<=(swA n m c).length,fun k=>(swA n m c).length-k,0,?_,Nat.zero_le _,fun k hs=>?_⟩
   .exact ωe
   refine⟨fun e3=>?_,fun e3=>?_⟩
   .have f33:(k:Int)<(((swA n m c).map rqP).length:Int):=oT e3;refine Zm (l:=(swA n m c)) (i:=k) ωm fun x34 hx34=>?_;obtain⟨hq1x34,hq2x34⟩:=hzB.2 x34 (mG hx34);refine k_ix k _ ωh (Zd hx34) rfl<|fork (fun e4=>?_) (fun e4=>?_)
    .have f37:sdU (swA m n c) (swA n m c) i k=true:=e4;refine ZlA (p:=x34.1) (q:=x34.2) (r:=x18.1) (u:=x18.2) ω ω ω ω (fun ya41 yb41 hk_41_2 hk_41_3 hk_41_4 hk_41_5=> ZlB (p:=ya29) (q:=yb29) (r:=ya41) (u:=yb41) ω ω ω ω (fun ya42 hk_42_1 hk_42_2=> Zbz (q:=ya42) fun n43 h43=>⟨ωr,?_⟩));have hstep:sdU (swA m n c) (swA n m c) i (k+1)=(sdU (swA m n c) (swA n m c) i k&&decide (poly.ori (ptQ (swA m n c) i) (ptQ (swA m n c) ((i+1)%(swA m n c).length)) x34<0)):=ZaK hx34;have hok:sdU (swA m n c) (swA n m c) i (k+1)=decide (n43<0):=by
      rw[hstep,f37,Bool.true_and,Zla hx18,Zla hx26];refine decide_eq_decide.2 (Iff.trans ?_ (ZoI h43).symm);rw[hk_42_1,hk_29_2,hk_29_3,hk_41_2,hk_41_3];exact Iff.rfl
     exact⟨k+1,ω,by simp only;omega,ωE⟩
    .have f37:¬(sdU (swA m n c) (swA n m c) i k=true):=fun hh=>Zbs hh e4;refine⟨ωr,?_⟩;have hstep:sdU (swA m n c) (swA n m c) i (k+1)=(sdU (swA m n c) (swA n m c) i k&&decide (poly.ori (ptQ (swA m n c) i) (ptQ (swA m n c) ((i+1)%(swA m n c).length)) x34<0)):=ZaK hx34;have hok:sdU (swA m n c) (swA n m c) i (k+1)=false:=by rw[hstep,Bool.eq_false_iff.2 f37];rfl
     exact⟨k+1,ω,by simp only;omega,ωE⟩
   .have f33:¬((k:Int)<(((swA n m c).map rqP).length:Int)):=oF e3;refine⟨fun e5=>?_,fun e5=>?_⟩
    .have a0:sdU (swA m n c) (swA n m c) i k=true:=e5;refine Eq.trans (b:=bool false) ?_ rfl;have hy:bydB (swA m n c) (swA n m c)=true:=Zxr (i:=i) ω (by rw[<-show k=(swA n m c).length from by omega];exact a0);have hmr:meetR m n=false:=by
      rcases (show c=0\/c=1 by omega) with rfl|rfl
      .have hy:bydB m n=true:=hy;unfold meetR;rw[hy];rfl
      .have hy:bydB n m=true:=hy;unfold meetR;rw[hy];simp
     rw[hmr]
    .have a0:¬(sdU (swA m n c) (swA n m c) i k=true):=fun hh=>Zbs hh e5;have hk1:k=(swA n m c).length:=ω;have hsd:sdU (swA m n c) (swA n m c) i (swA n m c).length=false:=by rw[<-hk1];exact Bool.eq_false_iff.2 a0
     refine⟨i+1,⟨ω,fun j hj=>by
      by_cases e:j=i
      .rw[e];exact hsd
      .exact g4 j ω⟩,by simp only;omega,?_⟩
     exact ωE
  .have f16:¬((i:Int)<(((swA m n c).map rqP).length:Int)):=oF e2;have hno:bydB (swA m n c) (swA n m c)=false:=Zzl fun j hj=>g4 j ω;refine⟨c+1,⟨ω,fun j hj=>by
    by_cases e:j=c
    .rw[e];exact hno
    .exact g2 j ω⟩,by simp only;omega,?_⟩
   constructor<;>(repeat' apply And.intro)<;>first|exact ωq|exact congrArg (fun l=>D.list (List.map rqP l)) (sw_s m n c)|exact congrArg (fun l=>D.list (List.map rqP l)) (sw_s n m c)|exact congrArg (fun l=>D.list (List.map rqP l)) (sw_s m n c).symm|exact congrArg (fun l=>D.list (List.map rqP l)) (sw_s n m c).symm
 .have f12:¬((c:Int)<2):=oF e1;refine Eq.trans (b:=bool true) ?_ rfl;have hmr:meetR m n=true:=by
   have h1:bydB m n=false:=g2 0 ω;have h2:bydB n m=false:=g2 1 ω;unfold meetR;rw[h1,h2];rfl
  rw[hmr]
 ) rfl
theorem ZyV{l:List (RV×RV)}(hl:∀p,p∈l->p.1.z<=67108864/\p.2.z<=67108864)(hn:l.length<=1073741824)(k:K (Xl rqP (ptsQ l))):Ask 45 [Xl rdv l] K:=ZyW hl hn (by show K (AV.val (.one (.d (.list (l.map rqv)))));rw[ZsJ];exact k)
theorem Zyi{m:List (RV×RV)}(h:m.length<=1048576/\∀p,p∈m->p.1.z<=1048576/\p.2.z<=1048576):qz (ptsQ m):=by
 refine⟨by rw[ZgW];exact h.1,fun q hq=>?_⟩;obtain⟨p,hp,rfl⟩:=List.mem_map.1 (show q∈List.map _ _ from hq);have:=h.2 p hp;have:=p.1.z1;have:=p.2.z1;exact⟨by show qs p.1.q<=_;omega,by show qs p.2.q<=_;omega⟩
theorem ZzK{m:List (Rat×Rat)}(h:okP m):qz m:=⟨by have:=h.1;omega,fun p hp=>by have:=h.2 p hp;omega⟩
theorem ZtM{L:List (List (Rat×Rat))}{W:List (List (RV×RV))}(hL:∀a,a∈L->okP a)(hnL:L.length<=1048576)(hW:W.length<=1048576/\∀m,m∈W->m.length<=1048576/\∀p,p∈m->p.1.z<=1048576/\p.2.z<=1048576)(k:∀b,b=clearB L W->K (bool b)):Ask 75 [Xl rqps L,Xl rdvs W] K:=use2 (k _ rfl) (by
 have hLw:(W.map rdvs).length=W.length:=length_map ..;have hW1:=hW.1;have hL1:(L.map rqps).length=L.length:=length_map ..;refine Zb Tryz.func75 Tryz.ntmps75 ?_;refine⟨Nat,fun i=>[(1,Xl rdvs W),(9,Xl rqps L),(10,int ((L.map rqps).length:Int)),(11,int (i:Int))],
  fun i=>[],fun i=>i<=L.length/\(L.take i).all (fun a=>W.all fun v=> !meetR a (ptsQ v))=true,fun i=>L.length-i,0,?_,⟨Nat.zero_le _,rfl⟩,fun i hs=>?_⟩
 .exact ωe
 obtain⟨g1,g2⟩:=hs;refine⟨fun e1=>?_,fun e1=>?_⟩
 .have f12:(i:Int)<((L.map rqps).length:Int):=oT e1;refine Zm (l:=L) (i:=i) ωm fun x13 hx13=>?_;have hqzx13:=ZzK (hL x13 (mG hx13));refine k_ix i _ ωh (Zd hx13) rfl ?_;refine⟨Nat,fun k=>[(1,Xl rdvs W),(6,Xl rqP x13),(9,Xl rqps L),(10,int ((L.map rqps).length:Int)),(11,int (i:Int)),(15,Xl rdvs W),(16,int ((W.map rdvs).length:Int)),(17,int (k:Int))],
   fun k=>[],fun k=>k<=W.length/\(W.take k).all (fun v=> !meetR x13 (ptsQ v))=true,fun k=>W.length-k,0,?_,⟨Nat.zero_le _,rfl⟩,fun k hs=>?_⟩
  .exact ωe
  obtain⟨g3,g4⟩:=hs;refine⟨fun e2=>?_,fun e2=>?_⟩
  .have f18:(k:Int)<((W.map rdvs).length:Int):=oT e2;refine Zm (l:=W) (i:=k) ωm fun x19 hx19=>?_;have hwx19:=hW.2 x19 (mG hx19);have hqzx19:=Zyi hwx19;refine k_ix k _ ωh (Zd hx19) rfl<|ZyV (l:=x19) (fun p hp=>⟨Nat.le_trans (hwx19.2 p hp).1 ωd,Nat.le_trans (hwx19.2 p hp).2 ωd⟩) (Nat.le_trans hwx19.1 ωd)<|ZwT (m:=x13) (n:=ptsQ x19) hqzx13 hqzx19 fun b24 hb24=>⟨fun e3=>?_,fun e3=>?_⟩
   .have f24:meetR x13 (ptsQ x19)=true:=hb24.symm.trans e3;refine Eq.trans (b:=bool false) ?_ rfl;have hcl:clearB L W=false:=Za8 hx13 (Za8 hx19 (by rw[f24];rfl));rw[hcl]
   .have f24:¬(meetR x13 (ptsQ x19)=true):=fun hh=>absurd (hh.symm.trans (hb24.symm.trans e3)) ωd;exact⟨k+1,⟨ω,by rw[ZaK hx19,g4,Bool.eq_false_iff.2 f24];rfl⟩,by simp only;omega,ωE⟩
  .have f18:¬((k:Int)<((W.map rdvs).length:Int)):=oF e2;have hk1:k=W.length:=ω;have hall:(W.all fun v=> !meetR x13 (ptsQ v))=true:=by rw[<-take_length (l:=W),<-hk1];exact g4
   exact⟨i+1,⟨ω,by rw[ZaK hx13,g2,hall];rfl⟩,by simp only;omega,ωE⟩
 .have f12:¬((i:Int)<((L.map rqps).length:Int)):=oF e1;refine Eq.trans (b:=bool true) ?_ rfl;have hcl:clearB L W=true:=by
   have hi:i=L.length:=ω;unfold clearB;rw[<-take_length (l:=L),<-hi];exact g2
  rw[hcl]
 ) rfl
end
section
variable{K:AV->Prop}
theorem ZtN{l m:List RV}{o:Int}(ho1:1<=o)(ho2:o<=50)(hl:l.length<=1048576/\∀x,x∈l->x.z<=1048576)(hm:m.length<=1048576/\∀x,x∈m->x.z<=1048576)(k:K (Xl rdvs (rowsL l m o))):Ask 73 [Xl rd l,Xl rd m,int o] K:=by
 refine use (ZnJ l m o ho1 ho2 (fun x hx=>Nat.le_trans (hl.2 x hx) ωd) (fun x hx=>Nat.le_trans (hm.2 x hx) ωd) (Nat.le_trans hl.1 ωd) (Nat.le_trans hm.1 ωd)) rfl ?_;replace k:K (AV.val (.one (.d (.list ((List.map cvl (partsL l m o)).map rdvs))))):=k;rw[Zo8]at k;exact k
theorem Zqx{A:ArmV}{l m:List RV}{Wl:List (List (RV×RV))}{o:Int}(hA:A.ok)(hl:l.length<=1048576/\∀x,x∈l->x.z<=1048576)(hm:m.length<=1048576/\∀x,x∈m->x.z<=1048576)(hW:Wl.length<=1048576/\∀m,m∈Wl->m.length<=1048576/\∀p,p∈m->p.1.z<=1048576/\p.2.z<=1048576)(h0:motE A l m Wl o=0)(k:∀b,b=provedB A (rowsL l m o) Wl->K (bool b)):Ask 26 [arm A,Xl rd l,Xl rd m,Xl rdvs Wl,int o] K:=use2 (k _ rfl) (by
 have hA2:=hA;obtain⟨hs1,hs2,hs4⟩:=ZdG.1 h0;have hs3:=ZgA hs2;have hA0:=(ZaG.1 hs1).1;have hlA0:=(ZaG.1 hs1).2;have hlA:l.length=A.links.length:=ω;have hn3:=(Zy hA0).1;have hLr:((rowsL l m o).map rdvs).length=(rowsL l m o).length:=length_map ..;have hLn:=Zia l m o;refine Zb Tryz.func26 Tryz.ntmps26 ?_;refine ZtN (l:=l) (m:=m) (o:=o) hs3.2.2.1 hs3.2.2.2 hl hm ?_;refine⟨Nat,fun i=>[(3,Xl rdvs Wl),(5,.val (.one (.ptr 5 0))),(20,Xl rdvs (rowsL l m o)),(21,int (((rowsL l m o).map rdvs).length:Int)),(22,int (i:Int))],
  fun i=>[(5,.var 32 (aC A))],fun i=>i<=(rowsL l m o).length/\((rowsL l m o).take i).all (fun row=>(shbL A row A.links.length).all fun b=>clearB [cnr b] Wl)=true,fun i=>(rowsL l m o).length-i,0,?_,⟨Nat.zero_le _,rfl⟩,fun i hs=>?_⟩
 .exact ωe
 obtain⟨g1,g2⟩:=hs;refine⟨fun e1=>?_,fun e1=>?_⟩
 .have f23:(i:Int)<(((rowsL l m o).map rdvs).length:Int):=oT e1;refine Zm (l:=(rowsL l m o)) (i:=i) ωm fun x24 hx24=>?_;have hrx24:=ZoZ hs2 hl.2 hm.2 x24 (mG hx24);refine k_ix i _ ωf (Zd hx24) rfl ?_;refine ZyT (A:=A) (Q:=x24) hA2 hA0 (by rw[hrx24.1];exact hlA) hrx24.2 ?_;have hsl:=Zeg A x24 A.links.length;have hLb:((shbL A x24 A.links.length).map rqB4).length=(shbL A x24 A.links.length).length:=length_map ..;refine⟨Nat,fun k=>[(3,Xl rdvs Wl),(5,.val (.one (.ptr 5 0))),(20,Xl rdvs (rowsL l m o)),(21,int (((rowsL l m o).map rdvs).length:Int)),(22,int (i:Int)),(28,Xl rqB4 (shbL A x24 A.links.length)),(29,int (((shbL A x24 A.links.length).map rqB4).length:Int)),(30,int (k:Int))],
   fun k=>[(5,.var 32 (aC A))],fun k=>k<=(shbL A x24 A.links.length).length/\((shbL A x24 A.links.length).take k).all (fun b=>clearB [cnr b] Wl)=true,fun k=>(shbL A x24 A.links.length).length-k,0,?_,⟨Nat.zero_le _,rfl⟩,fun k hs=>?_⟩
  .exact ωe
  obtain⟨g3,g4⟩:=hs;refine⟨fun e2=>?_,fun e2=>?_⟩
  .have f31:(k:Int)<(((shbL A x24 A.links.length).map rqB4).length:Int):=oT e2;refine Zm (l:=(shbL A x24 A.links.length)) (i:=k) ωm fun x32 hx32=>?_;have hzx32:=Zx0 hA0 x24 x32 (mG hx32);refine k_ix k _ ωf (Zd hx32) rfl ⟨ωr,ZtM (L:=[cnr x32]) (W:=Wl) (Zxh hzx32) (by show 1<=1048576;omega) hW fun b61 hb61=>⟨fun e3=>?_,fun e3=>?_⟩⟩
   .have f62:¬(b61=true):=fun hh=>Zbs hh (Zbu e3);refine Eq.trans (b:=bool false) ?_ rfl;have hp:provedB A (rowsL l m o) Wl=false:=Za8 (x:=x24) hx24 (Za8 (x:=x32) hx32 (by rw[<-hb61];exact Bool.eq_false_iff.2 f62));rw[hp]
   .have f62:¬(¬(b61=true)):=fun hh=>hh ((Zbv e3));exact⟨k+1,⟨ω,by rw[ZaK hx32,g4,<-hb61,nN f62];rfl⟩,by simp only;omega,ωE⟩
  .have f31:¬((k:Int)<(((shbL A x24 A.links.length).map rqB4).length:Int)):=oF e2;have hk1:k=(shbL A x24 A.links.length).length:=ω;have hall:((shbL A x24 A.links.length).all (fun b=>clearB [cnr b] Wl))=true:=by rw[<-take_length (l:=shbL A x24 A.links.length),<-hk1];exact g4
   exact⟨i+1,⟨ω,by rw[ZaK hx24,g2,hall];rfl⟩,by simp only;omega,ωE⟩
 .have f23:¬((i:Int)<(((rowsL l m o).map rdvs).length:Int)):=oF e1;refine Eq.trans (b:=bool true) ?_ rfl;have hp:provedB A (rowsL l m o) Wl=true:=by
   have hi:i=(rowsL l m o).length:=ω;unfold provedB;rw[<-take_length (l:=rowsL l m o),<-hi];exact g2
  rw[hp]
 ) rfl
end
