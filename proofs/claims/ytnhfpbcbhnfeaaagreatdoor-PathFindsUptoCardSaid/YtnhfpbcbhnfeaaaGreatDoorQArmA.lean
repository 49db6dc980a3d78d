/- Contracts: package arm. Printed by wip/gp_arm.py. -/
import Derived.Test.YtnhfpbcbhnfeaaaGreatDoorQGrpN
set_option maxHeartbeats 1000000
set_option maxRecDepth 100000
open List (getElem?_eq_getElem mem_of_getElem? length_map mem_cons not_mem_nil)
namespace Go.Proofs.YtnhfpbcbhnfeaaaGreatDoor.eng
open Go.RowKit num mem seg q held ratA ratB ratC ratD ratE vars ratF
section
variable{K:AV->Prop}
theorem Zbs{b:Bool}(h:b=true)(g:b=false):False:=by rw[h]at g;exact Bool.noConfusion g
theorem Zam{s:ByteArray}:nameOk s=true↔1<=s.size/\s.size<=12/\∀(j:Nat)(c:UInt8),s[j]? =some c->97<=c.toNat/\c.toNat<=122:=by
 unfold nameOk;rw[Bool.and_eq_true,Bool.and_eq_true,decide_eq_true_eq,decide_eq_true_eq,List.all_eq_true];have e:∀j:Nat,s[j]? =s.data.toList[j]? :=fun j=>by
  by_cases h:j<s.size
  .rw[getElem?_pos s j h,gE (show j<s.data.toList.length from h)];rfl
  .rw[getElem?_neg s j h,List.getElem?_eq_none (show s.data.toList.length<=j from Nat.not_lt.1 h)]
 constructor
 .rintro⟨h1,h2,h3⟩;refine⟨h1,h2,fun j c hc=>?_⟩;rw[e]at hc;have:=h3 c (mG hc);rw[Bool.and_eq_true,decide_eq_true_eq,decide_eq_true_eq]at this;exact this
 .rintro⟨h1,h2,h3⟩;refine⟨h1,h2,fun c hc=>?_⟩;obtain⟨j,hj⟩:=List.mem_iff_getElem?.1 hc;rw[Bool.and_eq_true,decide_eq_true_eq,decide_eq_true_eq];exact h3 j c (by rw[e];exact hj)
def smB(l:List RV):Bool:=l.all fun x=>decide (smallP x)
theorem ZgG{l:List RV}:smB l=true↔∀x,x∈l->smallP x:=by unfold smB;rw[List.all_eq_true];exact⟨fun h x hx=>oT (h x hx),fun h x hx=>decide_eq_true (h x hx)⟩
theorem smB2{x y:RV}:smB [x,y]=true↔smallP x/\smallP y:=by simp[smB]
theorem smB3{x y z:RV}:smB [x,y,z]=true↔smallP x/\smallP y/\smallP z:=by simp[smB]
theorem smB5{x y z u v:RV}:smB [x,y,z,u,v]=true↔smallP x/\smallP y/\smallP z/\smallP u/\smallP v:=by simp[smB]
theorem ZtQ{s:ByteArray}(hs0:s.size<=1099511627776)(k:K (bool (nameOk s))):Ask 144 [str s] K:=use2 k (by
 refine Zb Tryz.func144 Tryz.ntmps144 ?_;refine⟨Nat,fun i=>[(0,str s),(5,int (s.size:Int)),(6,int (i:Int))],
  fun i=>[],fun i=>i<=s.size/\∀(j:Nat)(c:UInt8),j<i->s[j]? =some c->97<=c.toNat/\c.toNat<=122,fun i=>s.size-i,0,?_,⟨Nat.zero_le _,fun j c h=>absurd h (Nat.not_lt_zero _)⟩,fun i hs=>?_⟩
 .exact ωe
 obtain⟨hi,h1⟩:=hs;refine⟨fun e1=>?_,fun e1=>?_⟩
 .have f7:(i:Int)<(s.size:Int):=oT e1;obtain⟨b11,hb11⟩:∃b,s[i]? =some b:=⟨_,getElem?_pos s _ ω⟩;refine Zch b11 ω (by rw[show ((i:Int):Int).toNat=i by omega];exact hb11)<|fork (fun e2=>?_) (fun e2=>?_)
  .have f13:(b11.toNat:Int)<97:=oT e2;refine⟨fun _=> Eq.trans (b:=bool false) ?_ rfl,fun e=>absurd e ωd⟩;have hno:nameOk s=false:=Bool.eq_false_iff.2 fun h=>by
    have h3:=(Zam.1 h).2.2 i
    first|(have h4:=h3 b16 hb16;omega)|(have h4:=h3 b11 hb11;omega)
   rw[hno]
  .have f13:¬((b11.toNat:Int)<97):=oF e2;obtain⟨b16,hb16⟩:∃b,s[i]? =some b:=⟨_,getElem?_pos s _ ω⟩;refine Zch b16 ω (by rw[show ((i:Int):Int).toNat=i by omega];exact hb16) ⟨fun e3=>?_,fun e3=>?_⟩
   .have f18:(b16.toNat:Int) >122:=oT e3;refine Eq.trans (b:=bool false) ?_ rfl;have hno:nameOk s=false:=Bool.eq_false_iff.2 fun h=>by
     have h3:=(Zam.1 h).2.2 i
     first|(have h4:=h3 b16 hb16;omega)|(have h4:=h3 b11 hb11;omega)
    rw[hno]
   .have f18:¬((b16.toNat:Int) >122):=oF e3;refine⟨i+1,⟨ω,fun j c g hc=>by
     by_cases e:j=i
     .subst e;have e1:=sI (hb11.symm.trans hc);have e2:=sI (hb16.symm.trans hc);subst e1;subst e2;omega
     .exact h1 j c ω hc⟩,by simp only;omega,?_⟩
    exact ωE
 .have f7:¬((i:Int)<(s.size:Int)):=oF e1;refine fork (fun e4=>?_) (fun e4=>?_)
  .have f23:(s.size:Int)>=1:=oT e4;refine Eq.trans (b:=bool (decide ((s.size:Int)<=12))) ?_ rfl;have hall:∀(j:Nat)(c:UInt8),s[j]? =some c->97<=c.toNat/\c.toNat<=122:=fun j c hc=>h1 j c (by
    have:j<s.size:=by
     refine Nat.not_le.1 fun hh=>?_;rw[getElem?_neg s j (Nat.not_lt.2 hh)]at hc;exact absurd hc (by simp)
    omega) hc
   have hv:nameOk s=(decide ((s.size:Int)<=12)):=by
    rw[Bool.eq_iff_iff,Zam]
    first
    |(rw[decide_eq_true_eq];exact⟨fun h=>ω,fun h=>⟨ω,ω,hall⟩⟩)
    |exact⟨fun h=>ω,fun h=>absurd h Bool.false_ne_true⟩
   rw[hv]
  .have f23:¬((s.size:Int)>=1):=oF e4;refine Eq.trans (b:=bool false) ?_ rfl;have hall:∀(j:Nat)(c:UInt8),s[j]? =some c->97<=c.toNat/\c.toNat<=122:=fun j c hc=>h1 j c (by
    have:j<s.size:=by
     refine Nat.not_le.1 fun hh=>?_;rw[getElem?_neg s j (Nat.not_lt.2 hh)]at hc;exact absurd hc (by simp)
    omega) hc
   have hv:nameOk s=(false):=by
    rw[Bool.eq_iff_iff,Zam]
    first
    |(rw[decide_eq_true_eq];exact⟨fun h=>ω,fun h=>⟨ω,ω,hall⟩⟩)
    |exact⟨fun h=>ω,fun h=>absurd h Bool.false_ne_true⟩
   rw[hv]
 ) rfl
theorem Zdz(l:List RV)(hl:∀x,x∈l->x.z<=1073741824)(hn:l.length<=1073741824):Spec Tryz.prog Tab 145 [Xl rd l] (bool (smB l)):=by
 have hL:(l.map rd).length=l.length:=length_map ..;refine Zb Tryz.func145 Tryz.ntmps145 ?_;refine⟨Nat,fun i=>[(5,Xl rd l),(6,int ((l.map rd).length:Int)),(7,int (i:Int))],
  fun i=>[],fun i=>i<=l.length/\∀(j:Nat)(x:RV),j<i->l[j]? =some x->smallP x,fun i=>l.length-i,0,?_,⟨Nat.zero_le _,fun j c h=>absurd h (Nat.not_lt_zero _)⟩,fun i hs=>?_⟩
 .exact ωe
 obtain⟨hi,h1⟩:=hs;refine⟨fun e1=>?_,fun e1=>?_⟩
 .have f8:(i:Int)<((l.map rd).length:Int):=oT e1;obtain⟨x9,hx9⟩:∃vv,l[i]? =some vv:=⟨_,gE ωm⟩;have hzx9:=hl x9 (mG hx9);refine k_ix i _ ωh (Zd hx9) rfl<|ZwR (x:=x9) ω ⟨fun e2=>?_,fun e2=>?_⟩
  .have a0:¬(smallP x9):=oF (Zbu e2);refine Eq.trans (b:=bool false) ?_ rfl;rw[show smB l=false from Bool.eq_false_iff.2 fun h=>a0 (ZgG.1 h x9 (mG hx9))]
  .have a0:¬(¬(smallP x9)):=fun hh=>hh (oT (Zbv e2));have a1:smallP x9:=Classical.byContradiction fun hh=>a0 hh;refine⟨i+1,⟨ω,fun j c g hc=>by
    by_cases e:j=i
    .subst e;rw[hx9]at hc;obtain rfl:=sI hc;exact a1
    .exact h1 j c ω hc⟩,by simp only;omega,?_⟩
   exact ωE
 .have f8:¬((i:Int)<((l.map rd).length:Int)):=oF e1;refine Eq.trans (b:=bool true) ?_ rfl;rw[show smB l=true from ZgG.2 fun x hx=>by
   obtain⟨j,hj⟩:=List.mem_iff_getElem?.1 hx;exact h1 j x (by have:=(gS hj).1;omega) hj]
theorem Zkm(l:LinkV)(hl:l.len.z<=67108864/\l.low.z<=67108864/\l.high.z<=67108864/\l.speed.z<=67108864/\l.brake.z<=67108864/\l.shape.length<=67108864/\∀p,p∈l.shape->p.1.z<=67108864/\p.2.z<=67108864):Spec Tryz.prog Tab 147 [.val (.agg (X1 l.len<|X1 l.low<|X1 l.high<|X1 l.speed<|X1 l.brake [.d (.list (l.shape.map rdv))]))] (int (linkE l)):=by
 obtain⟨z1,z2,z3,z4,z5,z6,z7⟩:=hl;have hL:(l.shape.map rdv).length=l.shape.length:=length_map ..;refine Zb Tryz.func147 Tryz.ntmps147 ?_;refine use (Zdz [l.len,l.low,l.high,l.speed,l.brake] (by intro x hx;simp only[mem_cons,not_mem_nil,or_false]at hx;rcases hx with rfl|rfl|rfl|rfl|rfl<;>omega) (by simp)) rfl ?_;refine fork (fun e1=>?_) (fun e1=>?_)
 .have a0:¬(smallP l.len/\smallP l.low/\smallP l.high/\smallP l.speed/\smallP l.brake):=fun hh=>Zbs (smB5.2 hh) (Zbu e1);refine⟨fun _=> Eq.trans (b:=int 1) ?_ rfl,fun e=>absurd e ωd⟩;have hB:linkBad l:=by
   refine Classical.byContradiction fun hh=>?_;simp only[linkBad,not_or,Classical.not_not]at hh;obtain⟨g1,g2,g3,g4,g5,g6,g7,g8,g9⟩:=hh
   first|exact a0 ⟨g1,g2,g3,g4,g5⟩|exact g6 a1|exact g7 a2|exact g8 a3|exact g9 a4
  rw[show linkE l=1 from if_pos hB]
 .have a0:¬(¬(smallP l.len/\smallP l.low/\smallP l.high/\smallP l.speed/\smallP l.brake)):=fun hh=>hh (smB5.1 (Zbv e1));refine Zf2 (x:=l.len) ω fun n22 h22=> fork (fun e2=>?_) (fun e2=>?_)
  .have a1:l.len.q<=0:=(Z0 h22).1 (oT e2);refine⟨fun _=> Eq.trans (b:=int 1) ?_ rfl,fun e=>absurd e ωd⟩;have hB:linkBad l:=by
    refine Classical.byContradiction fun hh=>?_;simp only[linkBad,not_or,Classical.not_not]at hh;obtain⟨g1,g2,g3,g4,g5,g6,g7,g8,g9⟩:=hh
    first|exact a0 ⟨g1,g2,g3,g4,g5⟩|exact g6 a1|exact g7 a2|exact g8 a3|exact g9 a4
   rw[show linkE l=1 from if_pos hB]
  .have a1:¬(l.len.q<=0):=fun hh=>oF e2 ((Z0 h22).2 hh);refine ZdL (x:=l.low) (y:=l.high) ω ω fun n30 h30=>⟨fun e3=>?_,fun e3=>?_⟩
   .have a2:l.high.q<=l.low.q:=(Zze h30).1 (oT e3);refine Eq.trans (b:=int 1) ?_ rfl;have hB:linkBad l:=by
     refine Classical.byContradiction fun hh=>?_;simp only[linkBad,not_or,Classical.not_not]at hh;obtain⟨g1,g2,g3,g4,g5,g6,g7,g8,g9⟩:=hh
     first|exact a0 ⟨g1,g2,g3,g4,g5⟩|exact g6 a1|exact g7 a2|exact g8 a3|exact g9 a4
    rw[show linkE l=1 from if_pos hB]
   .have a2:¬(l.high.q<=l.low.q):=fun hh=>oF e3 ((Zze h30).2 hh);refine Zf2 (x:=l.speed) ω fun n35 h35=> fork (fun e4=>?_) (fun e4=>?_)
    .have a3:l.speed.q<=0:=(Z0 h35).1 (oT e4);refine⟨fun _=> Eq.trans (b:=int 1) ?_ rfl,fun e=>absurd e ωd⟩;have hB:linkBad l:=by
      refine Classical.byContradiction fun hh=>?_;simp only[linkBad,not_or,Classical.not_not]at hh;obtain⟨g1,g2,g3,g4,g5,g6,g7,g8,g9⟩:=hh
      first|exact a0 ⟨g1,g2,g3,g4,g5⟩|exact g6 a1|exact g7 a2|exact g8 a3|exact g9 a4
     rw[show linkE l=1 from if_pos hB]
    .have a3:¬(l.speed.q<=0):=fun hh=>oF e4 ((Z0 h35).2 hh);refine Zf2 (x:=l.brake) ω fun n40 h40=>⟨fun e5=>?_,fun e5=>?_⟩
     .have a4:l.brake.q<=0:=(Z0 h40).1 (oT e5);refine Eq.trans (b:=int 1) ?_ rfl;have hB:linkBad l:=by
       refine Classical.byContradiction fun hh=>?_;simp only[linkBad,not_or,Classical.not_not]at hh;obtain⟨g1,g2,g3,g4,g5,g6,g7,g8,g9⟩:=hh
       first|exact a0 ⟨g1,g2,g3,g4,g5⟩|exact g6 a1|exact g7 a2|exact g8 a3|exact g9 a4
      rw[show linkE l=1 from if_pos hB]
     .have a4:¬(l.brake.q<=0):=fun hh=>oF e5 ((Z0 h40).2 hh);refine ZlC (l:=l.shape) ωs ω (fun n45 a5=>⟨fun e6=>?_,fun e6=>?_⟩)
      .have a6:n45≠0:=ZO e6;refine Eq.trans (b:=int n45) ?_ rfl;have hsm5:=nN a0;have hB:¬linkBad l:=by
        rintro(h|h|h|h|h|h|h|h|h)
        all_goals first|exact h hsm5.1|exact h hsm5.2.1|exact h hsm5.2.2.1|exact h hsm5.2.2.2.1|exact h hsm5.2.2.2.2|exact a1 h|exact a2 h|exact a3 h|exact a4 h
       rw[show linkE l=n45 by rw[linkE,if_neg hB,if_neg (by rw[<-a5];exact a6),a5]]
      .have a6:¬(n45≠0):=fun hh=>hh (ZP e6);refine⟨Nat,fun i=>[(50,Xl rdv l.shape),(51,int ((l.shape.map rdv).length:Int)),(52,int (i:Int))],
        fun i=>[],fun i=>i<=l.shape.length/\∀(j:Nat)(p:RV×RV),j<i->l.shape[j]? =some p->smallP p.1/\smallP p.2,fun i=>l.shape.length-i,0,?_,⟨Nat.zero_le _,fun j c h=>absurd h (Nat.not_lt_zero _)⟩,fun i hs=>?_⟩
       .exact ωe
       obtain⟨hi,h1⟩:=hs;refine⟨fun e7=>?_,fun e7=>?_⟩
       .have a9:(i:Int)<((l.shape.map rdv).length:Int):=oT e7;obtain⟨x54,a7⟩:∃vv,l.shape[i]? =some vv:=⟨_,gE ωm⟩;have hzx54:=z7 x54 (mG a7);refine k_ix i _ ωh (Zd a7) rfl ?_;refine use (Zdz [x54.1,x54.2] (by intro x hx;simp only[mem_cons,not_mem_nil,or_false]at hx;rcases hx with rfl|rfl<;>omega) (by simp)) rfl ?_;refine⟨fun e8=>?_,fun e8=>?_⟩
        .have a8:¬(smallP x54.1/\smallP x54.2):=fun hh=>Zbs (smB2.2 hh) (Zbu e8);refine Eq.trans (b:=int 1) ?_ rfl;have hsm5:=nN a0;have hB:¬linkBad l:=by
          rintro(h|h|h|h|h|h|h|h|h)
          all_goals first|exact h hsm5.1|exact h hsm5.2.1|exact h hsm5.2.2.1|exact h hsm5.2.2.2.1|exact h hsm5.2.2.2.2|exact a1 h|exact a2 h|exact a3 h|exact a4 h
         have hc0:convE 8 l.shape=0:=by rw[<-a5];exact nN a6
         rw[show linkE l=1 by rw[linkE,if_neg hB,if_pos hc0,if_pos ⟨x54,mG a7,a8⟩]]
        .have a8:¬(¬(smallP x54.1/\smallP x54.2)):=fun hh=>hh (smB2.1 (Zbv e8));have hsm:smallP x54.1/\smallP x54.2:=nN a8;refine⟨i+1,⟨ω,fun j c g hc=>by
          by_cases e:j=i
          .subst e;rw[a7]at hc;obtain rfl:=sI hc;exact hsm
          .exact h1 j c ω hc⟩,by simp only;omega,?_⟩
         exact ωE
       .have a9:¬((i:Int)<((l.shape.map rdv).length:Int)):=oF e7;refine Eq.trans (b:=int 0) ?_ rfl;have hsm5:=nN a0;have hB:¬linkBad l:=by
         rintro(h|h|h|h|h|h|h|h|h)
         all_goals first|exact h hsm5.1|exact h hsm5.2.1|exact h hsm5.2.2.1|exact h hsm5.2.2.2.1|exact h hsm5.2.2.2.2|exact a1 h|exact a2 h|exact a3 h|exact a4 h
        have hc0:convE 8 l.shape=0:=by rw[<-a5];exact nN a6
        rw[show linkE l=0 by
         rw[linkE,if_neg hB,if_pos hc0,if_neg];rintro⟨q,hq,hh⟩;obtain⟨j,hj⟩:=List.mem_iff_getElem?.1 hq;exact hh (h1 j q (by have:=(gS hj).1;omega) hj)]
def ArmV.ok(A:ArmV):Prop:=A.name.size<=67108864/\A.bx.z<=67108864/\A.by'.z<=67108864/\A.bt.z<=67108864/\A.links.length<=67108864/\∀l,l∈A.links->l.len.z<=67108864/\l.low.z<=67108864/\l.high.z<=67108864/\l.speed.z<=67108864/\l.brake.z<=67108864/\l.shape.length<=67108864/\∀p,p∈l.shape->p.1.z<=67108864/\p.2.z<=67108864
theorem Zlz{l:LinkV}(hl:l.len.z<=67108864/\l.low.z<=67108864/\l.high.z<=67108864/\l.speed.z<=67108864/\l.brake.z<=67108864/\l.shape.length<=67108864/\∀p,p∈l.shape->p.1.z<=67108864/\p.2.z<=67108864)(k:∀n,n=linkE l->K (int n)):Ask 147 [.val (.agg (X1 l.len<|X1 l.low<|X1 l.high<|X1 l.speed<|X1 l.brake [.d (.list (l.shape.map rdv))]))] K:=use (Zkm l hl) rfl (k _ rfl)
theorem Zhf{A:ArmV}(hA:A.ok)(k:∀n,n=armE A->K (int n)):Ask 90 [arm A] K:=use2 (k _ rfl) (by
 obtain⟨z1,z2,z3,z4,z5,z6⟩:=hA;have hL:(A.links.map lk).length=A.links.length:=length_map ..;refine Zb Tryz.func90 Tryz.ntmps90 ?_;refine ZtQ ω ⟨fun e1=>?_,fun e1=>?_⟩
 .have f10:¬(nameOk A.name=true):=fun hh=>Zbs hh (Zbu e1);refine Eq.trans (b:=int 3) ?_ rfl;rw[show armE A=3 from if_neg f10]
 .have f10:¬(¬(nameOk A.name=true)):=fun hh=>hh ((Zbv e1));refine⟨fun e2=>?_,fun e2=>?_⟩
  .have f14:((A.links.map lk).length:Int) >3:=oT e2;refine Eq.trans (b:=int 2) ?_ rfl;have hnm:nameOk A.name=true:=nN f10;rw[show armE A=2 by rw[armE,if_pos hnm,if_pos ω]]
  .have f14:¬(((A.links.map lk).length:Int) >3):=oF e2;refine fork (fun e3=>?_) (fun e3=>?_)
   .have f21:((A.links.map lk).length:Int)=0:=ZaW e3;refine⟨fun _=> Eq.trans (b:=int 1) ?_ rfl,fun e=>absurd e ωd⟩;have hnm:nameOk A.name=true:=nN f10;have h3:¬3<A.links.length:=ω;have hb:baseBad A:=by
     refine Classical.byContradiction fun hh=>?_;simp only[baseBad,not_or,Classical.not_not]at hh;obtain⟨g1,g2,g3,g4,g5⟩:=hh
     first|exact g1 ω|exact a0 ⟨g2,g3,g4⟩|exact g5 ⟨e5,a1⟩|exact a1 (g5 e5)
    rw[show armE A=1 by rw[armE,if_pos hnm,if_neg h3,if_pos hb]]
   .have f21:¬(((A.links.map lk).length:Int)=0):=ZaX e3;refine use (Zdz [A.bx,A.by',A.bt] (by intro x hx;simp only[mem_cons,not_mem_nil,or_false]at hx;rcases hx with rfl|rfl|rfl<;>omega) (by simp)) rfl ?_;refine fork (fun e4=>?_) (fun e4=>?_)
    .have a0:¬(smallP A.bx/\smallP A.by'/\smallP A.bt):=fun hh=>Zbs (smB3.2 hh) (Zbu e4);refine⟨fun _=> Eq.trans (b:=int 1) ?_ rfl,fun e=>absurd e ωd⟩;have hnm:nameOk A.name=true:=nN f10;have h3:¬3<A.links.length:=ω;have hb:baseBad A:=by
      refine Classical.byContradiction fun hh=>?_;simp only[baseBad,not_or,Classical.not_not]at hh;obtain⟨g1,g2,g3,g4,g5⟩:=hh
      first|exact g1 ω|exact a0 ⟨g2,g3,g4⟩|exact g5 ⟨e5,a1⟩|exact a1 (g5 e5)
     rw[show armE A=1 by rw[armE,if_pos hnm,if_neg h3,if_pos hb]]
    .have a0:¬(¬(smallP A.bx/\smallP A.by'/\smallP A.bt)):=fun hh=>hh (smB3.1 (Zbv e4));refine fork (fun e5=>?_) (fun e5=>?_)
     .refine Zf2 (x:=A.bt) ω fun n43 h43=>⟨fun e6=>?_,fun e6=>?_⟩
      .have a1:¬A.bt.q=0:=fun hh=>ZO e6 ((ZkX h43).2 hh);refine Eq.trans (b:=int 1) ?_ rfl;have hnm:nameOk A.name=true:=nN f10;have h3:¬3<A.links.length:=ω;have hb:baseBad A:=by
        refine Classical.byContradiction fun hh=>?_;simp only[baseBad,not_or,Classical.not_not]at hh;obtain⟨g1,g2,g3,g4,g5⟩:=hh
        first|exact g1 ω|exact a0 ⟨g2,g3,g4⟩|exact g5 ⟨e5,a1⟩|exact a1 (g5 e5)
       rw[show armE A=1 by rw[armE,if_pos hnm,if_neg h3,if_pos hb]]
      .have a1:¬(¬A.bt.q=0):=fun hh=>hh ((ZkX h43).1 (ZP e6));refine⟨Nat,fun i=>[(48,Xl lk A.links),(49,int ((A.links.map lk).length:Int)),(50,int (i:Int))],
        fun i=>[],fun i=>i<=A.links.length/\∀(j:Nat)(m:LinkV),j<i->A.links[j]? =some m->linkE m=0,fun i=>A.links.length-i,0,?_,⟨Nat.zero_le _,fun j c h=>absurd h (Nat.not_lt_zero _)⟩,fun i hs=>?_⟩
       .exact ωe
       obtain⟨hi,h1⟩:=hs;refine⟨fun e7=>?_,fun e7=>?_⟩
       .have a5:(i:Int)<((A.links.map lk).length:Int):=oT e7;obtain⟨x52,a2⟩:∃vv,A.links[i]? =some vv:=⟨_,gE ωm⟩;have hzx52:=z6 x52 (mG a2);refine k_ix i _ ωh (Zd a2) rfl<|Zlz (l:=x52) hzx52 fun n55 a3=>⟨fun e8=>?_,fun e8=>?_⟩
        .have a4:n55≠0:=ZO e8;refine Eq.trans (b:=int n55) ?_ rfl;have hnm:nameOk A.name=true:=nN f10;have h3:¬3<A.links.length:=ω;have hb:¬baseBad A:=by
          rintro(h|h|h|h|h)
          .omega
          .exact h (nN a0).1
          .exact h (nN a0).2.1
          .exact h (nN a0).2.2
          .first|exact a1 h.2|exact Zbs h.1 e5
         rw[show armE A=n55 by
          rw[armE,if_pos hnm,if_neg h3,if_neg hb,a3];exact Zce a2 h1 (by rw[<-a3];exact a4)]
        .have a4:¬(n55≠0):=fun hh=>hh (ZP e8);refine⟨i+1,⟨ω,fun j c g hc=>by
          by_cases e:j=i
          .subst e;rw[a2]at hc;obtain rfl:=sI hc;rw[<-a3];exact nN a4
          .exact h1 j c ω hc⟩,by simp only;omega,?_⟩
         exact ωE
       .have a5:¬((i:Int)<((A.links.map lk).length:Int)):=oF e7;refine Eq.trans (b:=int 0) ?_ rfl;have hnm:nameOk A.name=true:=nN f10;have h3:¬3<A.links.length:=ω;have hb:¬baseBad A:=by
         rintro(h|h|h|h|h)
         .omega
         .exact h (nN a0).1
         .exact h (nN a0).2.1
         .exact h (nN a0).2.2
         .first|exact a1 h.2|exact Zbs h.1 e5
        rw[show armE A=0 by
         rw[armE,if_pos hnm,if_neg h3,if_neg hb];exact Zep fun j m hm=>h1 j m (by have:=(gS hm).1;omega) hm]
     .refine⟨fun e=>absurd e ωd,fun _=>?_⟩;refine⟨Nat,fun i=>[(48,Xl lk A.links),(49,int ((A.links.map lk).length:Int)),(50,int (i:Int))],
       fun i=>[],fun i=>i<=A.links.length/\∀(j:Nat)(m:LinkV),j<i->A.links[j]? =some m->linkE m=0,fun i=>A.links.length-i,0,?_,⟨Nat.zero_le _,fun j c h=>absurd h (Nat.not_lt_zero _)⟩,fun i hs=>?_⟩
      .exact ωe
      obtain⟨hi,h1⟩:=hs;refine⟨fun e9=>?_,fun e9=>?_⟩
      .have a5:(i:Int)<((A.links.map lk).length:Int):=oT e9;obtain⟨x52,a2⟩:∃vv,A.links[i]? =some vv:=⟨_,gE ωm⟩;have hzx52:=z6 x52 (mG a2);refine k_ix i _ ωh (Zd a2) rfl<|Zlz (l:=x52) hzx52 fun n55 a3=>⟨fun e10=>?_,fun e10=>?_⟩
       .have a4:n55≠0:=ZO e10;refine Eq.trans (b:=int n55) ?_ rfl;have hnm:nameOk A.name=true:=nN f10;have h3:¬3<A.links.length:=ω;have hb:¬baseBad A:=by
         rintro(h|h|h|h|h)
         .omega
         .exact h (nN a0).1
         .exact h (nN a0).2.1
         .exact h (nN a0).2.2
         .first|exact a1 h.2|exact Zbs h.1 e5
        rw[show armE A=n55 by
         rw[armE,if_pos hnm,if_neg h3,if_neg hb,a3];exact Zce a2 h1 (by rw[<-a3];exact a4)]
       .have a4:¬(n55≠0):=fun hh=>hh (ZP e10);refine⟨i+1,⟨ω,fun j c g hc=>by
         by_cases e:j=i
         .subst e;rw[a2]at hc;obtain rfl:=sI hc;rw[<-a3];exact nN a4
         .exact h1 j c ω hc⟩,by simp only;omega,?_⟩
        exact ωE
      .have a5:¬((i:Int)<((A.links.map lk).length:Int)):=oF e9;refine Eq.trans (b:=int 0) ?_ rfl;have hnm:nameOk A.name=true:=nN f10;have h3:¬3<A.links.length:=ω;have hb:¬baseBad A:=by
        rintro(h|h|h|h|h)
        .omega
        .exact h (nN a0).1
        .exact h (nN a0).2.1
        .exact h (nN a0).2.2
        .first|exact a1 h.2|exact Zbs h.1 e5
       rw[show armE A=0 by
        rw[armE,if_pos hnm,if_neg h3,if_neg hb];exact Zep fun j m hm=>h1 j m (by have:=(gS hm).1;omega) hm]
 ) rfl
theorem ZqE{A:ArmV}{n:Int}(hA:A.ok)(k:∀m,m=hasE A n->K (int m)):Ask 49 [arm A,int n] K:=use2 (k _ rfl) (by
 have hA2:=hA;obtain⟨z1,z2,z3,z4,z5,z6⟩:=hA;have hL:(A.links.map lk).length=A.links.length:=length_map ..;refine Zb Tryz.func49 Tryz.ntmps49 ?_;refine Zhf (A:=A) ωs fun n7 hk_7_1=>⟨fun e1=>?_,fun e1=>?_⟩
 .have f9:n7≠0:=ZO e1;refine Eq.trans (b:=int n7) ?_ rfl;rw[show hasE A n=n7 by rw[hasE,if_neg (by rw[<-hk_7_1];exact f9),hk_7_1]]
 .have f9:¬(n7≠0):=fun hh=>hh (ZP e1);refine⟨fun e2=>?_,fun e2=>?_⟩
  .have f15:n≠((A.links.map lk).length:Int):=ZO e2;refine Eq.trans (b:=int 1) ?_ rfl;have h0:armE A=0:=by rw[<-hk_7_1];exact nN f9
   rw[show hasE A n=1 by rw[hasE,if_pos h0,if_neg (by rw[<-hL];exact f15)]]
  .have f15:¬(n≠((A.links.map lk).length:Int)):=fun hh=>hh (ZP e2);refine Eq.trans (b:=int 0) ?_ rfl;have h0:armE A=0:=by rw[<-hk_7_1];exact nN f9
   rw[show hasE A n=0 by rw[hasE,if_pos h0,if_pos (by rw[<-hL];exact nN f15)]]
 ) rfl
theorem ZqF{A:ArmV}{Q:List RV}(hA:A.ok)(hQ:∀x,x∈Q->x.z<=67108864)(k:∀m,m=fitsE A Q->K (int m)):Ask 16 [arm A,Xl rd Q] K:=use2 (k _ rfl) (by
 have hA2:=hA;obtain⟨z1,z2,z3,z4,z5,z6⟩:=hA;have hL:(A.links.map lk).length=A.links.length:=length_map ..;have hLq:(Q.map rd).length=Q.length:=length_map ..;refine Zb Tryz.func16 Tryz.ntmps16 ?_;refine ZqE (A:=A) (n:=((Q.map rd).length:Int)) ωs fun n11 hk_11_1=>?_;rw[length_map]at hk_11_1;refine⟨fun e1=>?_,fun e1=>?_⟩
 .have f13:n11≠0:=ZO e1;refine Eq.trans (b:=int n11) ?_ rfl;rw[show fitsE A Q=n11 by rw[fitsE,if_neg (by rw[<-hk_11_1];exact f13),hk_11_1]]
 .have f13:¬(n11≠0):=fun hh=>hh (ZP e1);have hlen:=(ZaG.1 (show hasE A (Q.length:Int)=0 by rw[<-hk_11_1];exact nN f13)).2;refine⟨Nat,fun i=>[(1,Xl rd Q),(16,Xl lk A.links),(17,int ((A.links.map lk).length:Int)),(18,int (i:Int))],
   fun i=>[],fun i=>i<=A.links.length/\∀(j:Nat)(m:LinkV)(x:RV),j<i->A.links[j]? =some m->Q[j]? =some x->¬(x.q<m.low.q\/m.high.q<x.q),fun i=>A.links.length-i,0,?_,⟨Nat.zero_le _,fun j m x h=>absurd h (Nat.not_lt_zero _)⟩,fun i hs=>?_⟩
  .exact ωe
  obtain⟨hi,h1⟩:=hs;refine⟨fun e2=>?_,fun e2=>?_⟩
  .have f19:(i:Int)<((A.links.map lk).length:Int):=oT e2;obtain⟨x21,hx21⟩:∃vv,A.links[i]? =some vv:=⟨_,gE ωm⟩;have hzx21:=z6 x21 (mG hx21);refine k_ix i _ ωh (Zd hx21) rfl ?_;obtain⟨x25,hx25⟩:∃vv,Q[i]? =some vv:=⟨_,gE ωm⟩;have hzx25:=hQ x25 (mG hx25);refine k_ix i _ ωh (Zd hx25) rfl<|ZdL (x:=x25) (y:=x21.low) ω ω fun n29 h29=> fork (fun e3=>?_) (fun e3=>?_)
   .have f31:x25.q<x21.low.q:=(Zzc h29).1 (oT e3);refine⟨ωr,⟨fun _=> Eq.trans (b:=int 17) ?_ rfl,fun e=>absurd e ωd⟩⟩;have h0:hasE A (Q.length:Int)=0:=by rw[<-hk_11_1];exact nN f13
    have hf:farQ A Q:=⟨i,x21,x25,hx21,hx25,.inl f31⟩;rw[show fitsE A Q=17 by rw[fitsE,if_pos h0,if_pos hf]]
   .have f31:¬(x25.q<x21.low.q):=fun hh=>oF e3 ((Zzc h29).2 hh);refine k_ix i _ ωh (Zd hx25) rfl<|ZdL (x:=x25) (y:=x21.high) ω ω fun n38 h38=>⟨ωr,⟨fun e4=>?_,fun e4=>?_⟩⟩
    .have a0:x21.high.q<x25.q:=(Zzd h38).1 (oT e4);refine Eq.trans (b:=int 17) ?_ rfl;have h0:hasE A (Q.length:Int)=0:=by rw[<-hk_11_1];exact nN f13
     have hf:farQ A Q:=⟨i,x21,x25,hx21,hx25,.inr a0⟩;rw[show fitsE A Q=17 by rw[fitsE,if_pos h0,if_pos hf]]
    .have a0:¬(x21.high.q<x25.q):=fun hh=>oF e4 ((Zzd h38).2 hh);refine⟨i+1,⟨ω,fun j m x g hm hx=>by
      by_cases e:j=i
      .subst e;have e1:=sI (hx21.symm.trans hm);have e2:=sI (hx25.symm.trans hx);subst e1;subst e2;rintro(h|h)
       .exact f31 h
       .exact a0 h
      .exact h1 j m x ω hm hx⟩,by simp only;omega,?_⟩
     exact ωE
  .have f19:¬((i:Int)<((A.links.map lk).length:Int)):=oF e2;refine Eq.trans (b:=int 0) ?_ rfl;have h0:hasE A (Q.length:Int)=0:=by rw[<-hk_11_1];exact nN f13
   have hf:¬farQ A Q:=by
    rintro⟨j,m,x,hm,hx,hh⟩;exact h1 j m x (by have:=(gS hm).1;omega) hm hx hh
   rw[show fitsE A Q=0 by rw[fitsE,if_pos h0,if_neg hf]]
 ) rfl
end
