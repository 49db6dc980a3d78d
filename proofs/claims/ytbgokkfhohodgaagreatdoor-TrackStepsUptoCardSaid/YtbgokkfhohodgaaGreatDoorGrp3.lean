/- Joined by wip/bundle.py: XTckA XTckR. -/
import Derived.Test.YtbgokkfhohodgaaGreatDoorGrpL
import Derived.Test.YtbgokkfhohodgaaGreatDoorGrp2
import Derived.Test.YtbgokkfhohodgaaGreatDoorGrpR
import Derived.Test.YtbgokkfhohodgaaGreatDoorGrpZ
set_option maxRecDepth 100000
namespace Go.Proofs.YtbgokkfhohodgaaGreatDoor.eng
open Go.RowKit num mem seg q held ratA ratB ratC ratD ratE vars ratF argopen
section
variable {K : AV → Prop}
set_option maxHeartbeats 4000000 in
theorem ZhV (A:ArmV) (p k:Int×List RV) (hA:A.ok) (hp:∀ x,x∈p.2→x.z≤1048577) (hk:∀ x,x∈k.2→x.z≤1048577) (hpl:p.2.length=A.links.length) (hkl:k.2.length=A.links.length) (hpt:0≤p.1∧p.1≤2000) (hkt:0≤k.1∧k.1≤2000):Spec Tryz.prog Tab 129 [.val (.agg [.d (.v (.string A.name)),.d (.v (.bool A.bx.s)),.d (.v (.string A.bx.a)),.d (.v (.string A.bx.d)),.d (.v (.bool A.by'.s)),.d (.v (.string A.by'.a)),.d (.v (.string A.by'.d)),.d (.v (.bool (A.bh))),.d (.v (.bool A.bt.s)),.d (.v (.string A.bt.a)),.d (.v (.string A.bt.d)),.d (.list (List.map lk A.links))]),.val (.agg [.d (.v (.int .i64 (p.1))),.d (.list (List.map rd p.2))]),.val (.agg [.d (.v (.int .i64 (k.1))),.d (.list (List.map rd k.2))])] (bool (slB A p k)):=by
 have hA2:=hA
 obtain⟨z1,z2,z3,z4,z5,z6⟩:=hA
 have hL:(List.map lk A.links).length=A.links.length:=List.length_map ..
 have hw:IntKind.i64.wrap (k.1 - p.1)=k.1 - p.1:=wrap64 _ (by omega) (by omega)
 have hLp:(List.map rd p.2).length=p.2.length:=List.length_map ..
 have hLk:(List.map rd k.2).length=k.2.length:=List.length_map ..
 refine Ze Tryz.func129 rfl rfl Tryz.ntmps129 rfl (by kernel_rfl) rfl rfl ?_
 refine k_of (IntKind.i64.wrap (k.1 - p.1)) (by omega) (by omega) fun q15 h15 z15=> ?_
 simp only [cn_z] at z15
 refine⟨Nat,fun i=> [(4,.val (.one (.ptr 4 0))),(5,.val (.one (.ptr 5 0))),(7,.val (.one (.ptr 7 0))),(17,.val (.one (.d (.list (List.map lk A.links))))),(18,int ((List.map lk A.links).length:Int)),(19,int (i:Int))],
  fun i=> [(4,.var 42 [.d (.v (.int .i64 (p.1))),.d (.list (List.map rd p.2))]),(5,.var 42 [.d (.v (.int .i64 (k.1))),.d (.list (List.map rd k.2))]),(7,.var 23 [.d (.v (.bool (cn q15).s)),.d (.v (.string (cn q15).a)),.d (.v (.string (cn q15).d))])],fun i=>i≤A.links.length∧∀ (j:Nat) (l:LinkV) (x y:RV),j< i→A.links[j]? =some l→p.2[j]? =some x→k.2[j]? =some y→¬ (l.speed.q*(((k.1 - p.1:Int)):Rat)< absV (y.q - x.q)),fun i=>A.links.length - i,0,?_,⟨Nat.zero_le _,fun j l x y h=>by omega⟩,fun i hs=> ?_⟩
 ·constructor<;>(repeat' (first|exact rfl|exact True.intro|exact⟨_,_,rfl⟩|exact(by decide)|apply And.intro))
  all_goals first|exact congrArg (fun n:Int=>D.v (.int .i64 n)) (by omega)|exact congrArg (fun n:Int=>D.v (.int .i64 n)) (by rw [wrap64 _ (by omega) (by omega)];omega)|(simp;done)
 obtain⟨g1,g2⟩:=hs
 refine⟨fun e1=> ?_,fun e1=> ?_⟩
 ·have f20:(i:Int)< ((List.map lk A.links).length:Int):=of_decide_eq_true e1
  refine ZM (l:=A.links) (i:=i) (by first|omega|exact Nat.mod_lt _ (by omega)) fun x22 hx22=> ?_
  obtain⟨hs1x22,hs2x22,hs3x22,hs4x22,hs5,hs6,hs7⟩:=z6 x22 (List.mem_of_getElem? hx22)
  refine k_ix i [D.v (.bool x22.len.s),D.v (.string x22.len.a),D.v (.string x22.len.d),D.v (.bool x22.low.s),D.v (.string x22.low.a),D.v (.string x22.low.d),D.v (.bool x22.high.s),D.v (.string x22.high.a),D.v (.string x22.high.d),D.v (.bool x22.speed.s),D.v (.string x22.speed.a),D.v (.string x22.speed.d),D.v (.bool x22.brake.s),D.v (.string x22.brake.a),D.v (.string x22.brake.d),D.list (List.map rdv x22.shape)] (by first|rfl|omega|(rw [wrap64 _ (by omega) (by omega)];omega)) (Zp hx22) rfl ?_
  refine ZM (l:=k.2) (i:=i) (by first|omega|exact Nat.mod_lt _ (by omega)) fun x27 hx27=> ?_
  have hzx27:=hk x27 (List.mem_of_getElem? hx27)
  refine k_ix i [D.v (.bool x27.s),D.v (.string x27.a),D.v (.string x27.d)] (by first|rfl|omega|(rw [wrap64 _ (by omega) (by omega)];omega)) (Zp hx27) rfl ?_
  refine ZM (l:=p.2) (i:=i) (by first|omega|exact Nat.mod_lt _ (by omega)) fun x32 hx32=> ?_
  have hzx32:=hp x32 (List.mem_of_getElem? hx32)
  refine k_ix i [D.v (.bool x32.s),D.v (.string x32.a),D.v (.string x32.d)] (by first|rfl|omega|(rw [wrap64 _ (by omega) (by omega)];omega)) (Zp hx32) rfl ?_
  refine ZfA (x:=x27) (y:=x32) (by omega) (by omega) fun q34 h34 z34=> ?_
  simp only [cn_z] at z34
  refine Zmu (x:=cn q34) (by simp only [cn_z];omega) (fun q35 hk_35_1 hk_35_2=> ?_)
  try simp only [cn_q] at hk_35_1
  simp only [cn_z] at hk_35_2
  refine Zks (x:=x22.speed) (y:=cn q15) (by omega) (by simp only [cn_z];omega) fun q39 h39 z39=> ?_
  simp only [cn_z] at z39
  simp only [cn_q] at h39
  refine Zkv (x:=cn q35) (y:=cn q39) (by simp only [cn_z];omega) (by simp only [cn_z];omega) fun n40 h40=> ?_
  simp only [cn_q] at h40
  refine⟨by kernel_rfl,?_⟩
  refine⟨fun e2=> ?_,fun e2=> ?_⟩
  ·have f41:q39< q35:=(ZkC h40).1 (of_decide_eq_true e2)
   refine Eq.trans (b:=bool false) ?_ rfl
   rw [Zm1 ⟨i,x22,x32,x27,hx22,hx32,hx27,by rw [h39,h15,hw,hk_35_1,h34] at f41;exact f41⟩]
  ·have f41:¬ (q39< q35):=fun hh=>of_decide_eq_false e2 ((ZkC h40).2 hh)
   refine⟨i+1,⟨by omega,fun j l x y hj hl hx hy=>by
    by_cases e:j=i
    ·subst e
     obtain rfl:=Option.some.inj (hx22.symm.trans hl)
     obtain rfl:=Option.some.inj (hx32.symm.trans hx)
     obtain rfl:=Option.some.inj (hx27.symm.trans hy)
     rw [h39,h15,hw,hk_35_1,h34] at f41;exact f41
    ·exact g2 j l x y (by omega) hl hx hy⟩,by simp only;omega,?_⟩
   constructor<;>(repeat' (first|exact rfl|exact True.intro|apply And.intro))
   all_goals first
    |exact congrArg (fun n:Int=>D.v (.int .i64 n)) (by rw [wrap64 _ (by omega) (by omega)];omega)
    |exact congrArg (fun n:Int=>D.v (.int .i64 n)) (by omega)
 ·have f20:¬ ((i:Int)< ((List.map lk A.links).length:Int)):=of_decide_eq_false e1
  refine Eq.trans (b:=bool true) ?_ rfl
  rw [ZlX (by
   rintro⟨j,l,x,y,hl,hx,hy,hh⟩
   exact g2 j l x y (by have:=(List.getElem?_eq_some_iff.1 hl).1;omega) hl hx hy hh)]
theorem Zmm {A:ArmV} {p k:Int×List RV} (hA:A.ok) (hp:∀ x,x∈p.2→x.z≤1048577) (hk:∀ x,x∈k.2→x.z≤1048577) (hpl:p.2.length=A.links.length) (hkl:k.2.length=A.links.length) (hpt:0≤p.1∧p.1≤2000) (hkt:0≤k.1∧k.1≤2000) (kk:∀ b,b=slB A p k→K (bool b)):Ask 129 [.val (.agg [.d (.v (.string A.name)),.d (.v (.bool A.bx.s)),.d (.v (.string A.bx.a)),.d (.v (.string A.bx.d)),.d (.v (.bool A.by'.s)),.d (.v (.string A.by'.a)),.d (.v (.string A.by'.d)),.d (.v (.bool (A.bh))),.d (.v (.bool A.bt.s)),.d (.v (.string A.bt.a)),.d (.v (.string A.bt.d)),.d (.list (List.map lk A.links))]),.val (.agg [.d (.v (.int .i64 (p.1))),.d (.list (List.map rd p.2))]),.val (.agg [.d (.v (.int .i64 (k.1))),.d (.list (List.map rd k.2))])] K:=use (ZhV A p k hA hp hk hpl hkl hpt hkt) rfl (kk _ rfl)
set_option maxHeartbeats 4000000 in
theorem ZfT (A:ArmV) (t:List (Int×List RV)) (hA:A.ok) (ht:tz t):Spec Tryz.prog Tab 59 [.val (.agg [.d (.v (.string A.name)),.d (.v (.bool A.bx.s)),.d (.v (.string A.bx.a)),.d (.v (.string A.bx.d)),.d (.v (.bool A.by'.s)),.d (.v (.string A.by'.a)),.d (.v (.string A.by'.d)),.d (.v (.bool (A.bh))),.d (.v (.bool A.bt.s)),.d (.v (.string A.bt.a)),.d (.v (.string A.bt.d)),.d (.list (List.map lk A.links))]),.val (.one (.d (.list (List.map keyD t))))] (int (trackE A t)):=by
 have hA2:=hA
 obtain⟨z1,z2,z3,z4,z5,z6⟩:=hA
 have hL:(List.map lk A.links).length=A.links.length:=List.length_map ..
 have hLt:(List.map keyD t).length=t.length:=List.length_map ..
 have ht1:=ht.1
 refine Ze Tryz.func59 rfl rfl Tryz.ntmps59 rfl (by kernel_rfl) rfl rfl ?_
 refine Zgo (A:=A) (by assumption) fun n10 hk_10_1=> ?_
 refine⟨fun e1=> ?_,fun e1=> ?_⟩
 ·have f12:n10≠0:=Zc3 e1
  refine Eq.trans (b:=int n10) ?_ rfl
  rw [ZgI (by rw [← hk_10_1];exact f12),← hk_10_1]
 ·have f12:¬ (n10≠0):=fun hh=>hh (Zc4 e1)
  have hA0:armE A=0:=by rw [← hk_10_1];exact Classical.not_not.1 f12
  refine⟨fun e2=> ?_,fun e2=> ?_⟩
  ·have f16:((List.map keyD t).length:Int)=0:=Zcf e2
   refine Eq.trans (b:=int 14) ?_ rfl
   rw [Zc9 hA0 (by omega)]
  ·have f16:¬ (((List.map keyD t).length:Int)=0):=Zcg e2
   refine⟨fun e3=> ?_,fun e3=> ?_⟩
   ·have f19:((List.map keyD t).length:Int) >60:=of_decide_eq_true e3
    refine Eq.trans (b:=int 2) ?_ rfl
    rw [ZgH hA0 (by omega) (by omega)]
   ·have f19:¬ (((List.map keyD t).length:Int) >60):=of_decide_eq_false e3
    refine⟨Nat,fun i=> [(1,.val (.one (.d (.list (List.map keyD t))))),(2,.val (.one (.ptr 2 0))),(20,.val (.one (.d (.list (List.map keyD t))))),(21,int ((List.map keyD t).length:Int)),(22,int (i:Int))],
     fun i=> [(2,.var 32 [.d (.v (.string A.name)),.d (.v (.bool A.bx.s)),.d (.v (.string A.bx.a)),.d (.v (.string A.bx.d)),.d (.v (.bool A.by'.s)),.d (.v (.string A.by'.a)),.d (.v (.string A.by'.d)),.d (.v (.bool (A.bh))),.d (.v (.bool A.bt.s)),.d (.v (.string A.bt.a)),.d (.v (.string A.bt.d)),.d (.list (List.map lk A.links))])],fun i=>i≤t.length∧∀ j,j< i→keyE A t j=0,fun i=>t.length - i,0,?_,⟨Nat.zero_le _,fun j h=>by omega⟩,fun i hs=> ?_⟩
    ·constructor<;>(repeat' (first|exact rfl|exact True.intro|exact⟨_,_,rfl⟩|exact(by decide)|apply And.intro))
     all_goals first|exact congrArg (fun n:Int=>D.v (.int .i64 n)) (by omega)|exact congrArg (fun n:Int=>D.v (.int .i64 n)) (by rw [wrap64 _ (by omega) (by omega)];omega)|(simp;done)
    obtain⟨g1,h1⟩:=hs
    refine⟨fun e4=> ?_,fun e4=> ?_⟩
    ·have f23:(i:Int)< ((List.map keyD t).length:Int):=of_decide_eq_true e4
     refine ZM (l:=t) (i:=i) (by first|omega|exact Nat.mod_lt _ (by omega)) fun x25 hx25=> ?_
     have hzx25:=ht.2 x25 (List.mem_of_getElem? hx25)
     refine k_ix i [D.v (.int .i64 (x25.1)),D.list (List.map rd x25.2)] (by first|rfl|omega|(rw [wrap64 _ (by omega) (by omega)];omega)) (Zp hx25) rfl ?_
     refine fork (fun e5=> ?_) (fun e5=> ?_)
     ·have f30:x25.1< 0:=of_decide_eq_true e5
      refine⟨fun _=> ?_,fun e=>absurd e (by decide)⟩
      refine Eq.trans (b:=int 1) ?_ rfl
      have hke:keyE A t i=1:=(ZiK hx25 (by rw [Zcn (.inl f30)];decide)).trans (Zcn (.inl f30))
      rw [ZaY hA0 (by omega) (by omega) h1 (by rw [hke];decide),hke]
     ·have f30:¬ (x25.1< 0):=of_decide_eq_false e5
      refine⟨fun e6=> ?_,fun e6=> ?_⟩
      ·have f34:x25.1 >2000:=of_decide_eq_true e6
       refine Eq.trans (b:=int 1) ?_ rfl
       have hke:keyE A t i=1:=(ZiK hx25 (by rw [Zcn (.inr f34)];decide)).trans (Zcn (.inr f34))
       rw [ZaY hA0 (by omega) (by omega) h1 (by rw [hke];decide),hke]
      ·have f34:¬ (x25.1 >2000):=of_decide_eq_false e6
       refine Zlx (A:=A) (Q:=x25.2) (by assumption) (fun x hx=>Nat.le_trans (hzx25.2.2 x hx) (by decide)) fun n38 hk_38_1=> ?_
       refine⟨fun e7=> ?_,fun e7=> ?_⟩
       ·have f40:n38≠0:=Zc3 e7
        refine Eq.trans (b:=int n38) ?_ rfl
        have hke:keyE A t i=n38:=by rw [ZiK hx25 (by rw [Zfy f30 f34,← hk_38_1];exact f40),Zfy f30 f34,← hk_38_1]
        rw [ZaY hA0 (by omega) (by omega) h1 (by rw [hke];exact f40),hke]
       ·have f40:¬ (n38≠0):=fun hh=>hh (Zc4 e7)
        have hk1:key1 A x25=0:=by rw [Zfy f30 f34,← hk_38_1];exact Classical.not_not.1 f40
        have hkl:=(Zgq (Zd0.1 hk1).2).1
        have hkt:=(Zd0.1 hk1).1
        refine⟨fun e8=> ?_,fun e8=> ?_⟩
        ·have f43:(i:Int)=0:=Zcf e8
         have hke:keyE A t i=0:=by
          obtain rfl:i=0:=by omega
          rw [Zmj hx25,hk1]
         refine⟨i+1,⟨by omega,fun j hj=>by
          by_cases e:j=i
          ·rw [e];exact hke
          ·exact h1 j (by omega)⟩,by simp only;omega,?_⟩
         constructor<;>(repeat' (first|exact rfl|exact True.intro|apply And.intro))
         all_goals first
          |exact congrArg (fun n:Int=>D.v (.int .i64 n)) (by rw [wrap64 _ (by omega) (by omega)];omega)
          |exact congrArg (fun n:Int=>D.v (.int .i64 n)) (by omega)
        ·have f43:¬ ((i:Int)=0):=Zcg e8
         have hi1:0< i:=by omega
         refine ZM (l:=t) (i:=(i - 1)) (by first|omega|exact Nat.mod_lt _ (by omega)) fun x49 hx49=> ?_
         have hzx49:=ht.2 x49 (List.mem_of_getElem? hx49)
         refine k_ix (i - 1) [D.v (.int .i64 (x49.1)),D.list (List.map rd x49.2)] (by first|rfl|omega|(rw [wrap64 _ (by omega) (by omega)];omega)) (Zp hx49) rfl ?_
         refine⟨by kernel_rfl,?_⟩
         refine⟨fun e9=> ?_,fun e9=> ?_⟩
         ·have f52:x25.1≤x49.1:=of_decide_eq_true e9
          refine Eq.trans (b:=int 9) ?_ rfl
          have hke:keyE A t i=9:=(ZiI (by omega) hx49 hx25).trans (Zmk hk1 f52)
          rw [ZaY hA0 (by omega) (by omega) h1 (by rw [hke];decide),hke]
         ·have f52:¬ (x25.1≤x49.1):=of_decide_eq_false e9
          have hk0:=ZiJ hx49 (h1 (i - 1) (by omega))
          have hpl:=(Zgq (Zd0.1 hk0).2).1
          have hpt:=(Zd0.1 hk0).1
          refine k_ix (i - 1) [D.v (.int .i64 (x49.1)),D.list (List.map rd x49.2)] (by first|rfl|omega|(rw [wrap64 _ (by omega) (by omega)];omega)) (Zp hx49) rfl ?_
          refine Zmm (A:=A) (p:=x49) (k:=x25) (by assumption) hzx49.2.2 hzx25.2.2 hpl hkl hpt hkt fun b60 hb60=> ?_
          refine⟨by kernel_rfl,?_⟩
          refine⟨fun e10=> ?_,fun e10=> ?_⟩
          ·have f61:¬ (slB A x49 x25=true):=fun hh=>absurd (hh.symm.trans (hb60.symm.trans (Zg3 e10))) (by decide)
           refine Eq.trans (b:=int 19) ?_ rfl
           have hke:keyE A t i=19:=(ZiI (by omega) hx49 hx25).trans (Zlt hk1 f52 (Classical.not_not.1 fun g=>f61 (ZlX g)))
           rw [ZaY hA0 (by omega) (by omega) h1 (by rw [hke];decide),hke]
          ·have f61:¬ (¬ (slB A x49 x25=true)):=fun hh=>hh (hb60.symm.trans (Zg4 e10))
           have hke:keyE A t i=0:=(ZiI (by omega) hx49 hx25).trans (Zml hk1 f52 (Zli.1 (by have:=f61;simpa using this)))
           refine⟨i+1,⟨by omega,fun j hj=>by
            by_cases e:j=i
            ·rw [e];exact hke
            ·exact h1 j (by omega)⟩,by simp only;omega,?_⟩
           constructor<;>(repeat' (first|exact rfl|exact True.intro|apply And.intro))
           all_goals first
            |exact congrArg (fun n:Int=>D.v (.int .i64 n)) (by rw [wrap64 _ (by omega) (by omega)];omega)
            |exact congrArg (fun n:Int=>D.v (.int .i64 n)) (by omega)
    ·have f23:¬ ((i:Int)< ((List.map keyD t).length:Int)):=of_decide_eq_false e4
     refine Eq.trans (b:=int 0) ?_ rfl
     rw [ZhD hA0 (by omega) (by omega) fun j hj=>h1 j (by omega)]
theorem Zkw {A:ArmV} {t:List (Int×List RV)} (hA:A.ok) (ht:tz t) (k:∀ n,n=trackE A t→K (int n)):Ask 59 [.val (.agg [.d (.v (.string A.name)),.d (.v (.bool A.bx.s)),.d (.v (.string A.bx.a)),.d (.v (.string A.bx.d)),.d (.v (.bool A.by'.s)),.d (.v (.string A.by'.a)),.d (.v (.string A.by'.d)),.d (.v (.bool (A.bh))),.d (.v (.bool A.bt.s)),.d (.v (.string A.bt.a)),.d (.v (.string A.bt.d)),.d (.list (List.map lk A.links))]),.val (.one (.d (.list (List.map keyD t))))] K:=use (ZfT A t hA ht) rfl (k _ rfl)
end
end Go.Proofs.YtbgokkfhohodgaaGreatDoor.eng
namespace Go.Proofs.YtbgokkfhohodgaaGreatDoor.eng
open Go.RowKit num mem seg q held ratA ratB ratC ratD ratE vars ratF argopen
section
variable {K : AV → Prop}
end
end Go.Proofs.YtbgokkfhohodgaaGreatDoor.eng
