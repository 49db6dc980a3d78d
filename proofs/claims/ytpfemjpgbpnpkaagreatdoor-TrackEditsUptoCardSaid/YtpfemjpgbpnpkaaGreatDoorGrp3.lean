/- Joined by wip/bundle.py: XTckA XTckR. -/
import Derived.Test.YtpfemjpgbpnpkaaGreatDoorGrpL
import Derived.Test.YtpfemjpgbpnpkaaGreatDoorGrp2
import Derived.Test.YtpfemjpgbpnpkaaGreatDoorGrpR
import Derived.Test.YtpfemjpgbpnpkaaGreatDoorGrpZ
set_option maxRecDepth 100000
namespace Go.Proofs.YtpfemjpgbpnpkaaGreatDoor.eng
open Go.RowKit num mem seg q held ratA ratB ratC ratD ratE vars ratF argopen
section
variable {K : AV → Prop}
set_option maxHeartbeats 4000000 in
theorem ZnP (A:ArmV) (p k:Int×List RV) (hA:A.ok) (hp:∀ x,x∈p.2→x.z≤1048577) (hk:∀ x,x∈k.2→x.z≤1048577) (hpl:p.2.length=A.links.length) (hkl:k.2.length=A.links.length) (hpt:0≤p.1∧p.1≤2000) (hkt:0≤k.1∧k.1≤2000):Spec Tryz.prog Tab 229 [.val (.agg [.d (.v (.string A.name)),.d (.v (.bool A.bx.s)),.d (.v (.string A.bx.a)),.d (.v (.string A.bx.d)),.d (.v (.bool A.by'.s)),.d (.v (.string A.by'.a)),.d (.v (.string A.by'.d)),.d (.v (.bool (A.bh))),.d (.v (.bool A.bt.s)),.d (.v (.string A.bt.a)),.d (.v (.string A.bt.d)),.d (.list (List.map lk A.links))]),.val (.agg [.d (.v (.int .i64 (p.1))),.d (.list (List.map rd p.2))]),.val (.agg [.d (.v (.int .i64 (k.1))),.d (.list (List.map rd k.2))])] (bool (slB A p k)):=by
 have hA2:=hA
 obtain⟨z1,z2,z3,z4,z5,z6⟩:=hA
 have hL:(List.map lk A.links).length=A.links.length:=List.length_map ..
 have hw:IntKind.i64.wrap (k.1 - p.1)=k.1 - p.1:=wrap64 _ (by omega) (by omega)
 have hLp:(List.map rd p.2).length=p.2.length:=List.length_map ..
 have hLk:(List.map rd k.2).length=k.2.length:=List.length_map ..
 refine Za Tryz.func229 rfl rfl Tryz.ntmps229 rfl (by kernel_rfl) rfl rfl ?_
 refine k_of (IntKind.i64.wrap (k.1 - p.1)) (by omega) (by omega) fun q15 h15 z15=> ?_
 simp only [cn_z] at z15
 refine⟨Nat,fun i=> [(4,.val (.one (.ptr 4 0))),(5,.val (.one (.ptr 5 0))),(7,.val (.one (.ptr 7 0))),(17,.val (.one (.d (.list (List.map lk A.links))))),(18,int ((List.map lk A.links).length:Int)),(19,int (i:Int))],
  fun i=> [(4,.var 123 [.d (.v (.int .i64 (p.1))),.d (.list (List.map rd p.2))]),(5,.var 123 [.d (.v (.int .i64 (k.1))),.d (.list (List.map rd k.2))]),(7,.var 23 [.d (.v (.bool (cn q15).s)),.d (.v (.string (cn q15).a)),.d (.v (.string (cn q15).d))])],fun i=>i≤A.links.length∧∀ (j:Nat) (l:LinkV) (x y:RV),j< i→A.links[j]? =some l→p.2[j]? =some x→k.2[j]? =some y→¬ (l.speed.q*(((k.1 - p.1:Int)):Rat)< absV (y.q - x.q)),fun i=>A.links.length - i,0,?_,⟨Nat.zero_le _,fun j l x y h=>by omega⟩,fun i hs=> ?_⟩
 ·constructor<;>(repeat' (first|exact rfl|exact True.intro|exact⟨_,_,rfl⟩|exact(by decide)|apply And.intro))
  all_goals first|exact congrArg (fun n:Int=>D.v (.int .i64 n)) (by omega)|exact congrArg (fun n:Int=>D.v (.int .i64 n)) (by rw [wrap64 _ (by omega) (by omega)];omega)|(simp;done)
 obtain⟨g1,g2⟩:=hs
 refine⟨fun e1=> ?_,fun e1=> ?_⟩
 ·have f20:(i:Int)< ((List.map lk A.links).length:Int):=of_decide_eq_true e1
  refine Zc (l:=A.links) (i:=i) (by first|omega|exact Nat.mod_lt _ (by omega)) fun x22 hx22=> ?_
  obtain⟨hs1x22,hs2x22,hs3x22,hs4x22,hs5,hs6,hs7⟩:=z6 x22 (List.mem_of_getElem? hx22)
  refine k_ix i [D.v (.bool x22.len.s),D.v (.string x22.len.a),D.v (.string x22.len.d),D.v (.bool x22.low.s),D.v (.string x22.low.a),D.v (.string x22.low.d),D.v (.bool x22.high.s),D.v (.string x22.high.a),D.v (.string x22.high.d),D.v (.bool x22.speed.s),D.v (.string x22.speed.a),D.v (.string x22.speed.d),D.v (.bool x22.brake.s),D.v (.string x22.brake.a),D.v (.string x22.brake.d),D.list (List.map rdv x22.shape)] (by first|rfl|omega|(rw [wrap64 _ (by omega) (by omega)];omega)) (Zb hx22) rfl ?_
  refine Zc (l:=k.2) (i:=i) (by first|omega|exact Nat.mod_lt _ (by omega)) fun x27 hx27=> ?_
  have hzx27:=hk x27 (List.mem_of_getElem? hx27)
  refine k_ix i [D.v (.bool x27.s),D.v (.string x27.a),D.v (.string x27.d)] (by first|rfl|omega|(rw [wrap64 _ (by omega) (by omega)];omega)) (Zb hx27) rfl ?_
  refine Zc (l:=p.2) (i:=i) (by first|omega|exact Nat.mod_lt _ (by omega)) fun x32 hx32=> ?_
  have hzx32:=hp x32 (List.mem_of_getElem? hx32)
  refine k_ix i [D.v (.bool x32.s),D.v (.string x32.a),D.v (.string x32.d)] (by first|rfl|omega|(rw [wrap64 _ (by omega) (by omega)];omega)) (Zb hx32) rfl ?_
  refine ZcW (x:=x27) (y:=x32) (by omega) (by omega) fun q34 h34 z34=> ?_
  simp only [cn_z] at z34
  refine ZtU (x:=cn q34) (by simp only [cn_z];omega) (fun q35 hk_35_1 hk_35_2=> ?_)
  try simp only [cn_q] at hk_35_1
  simp only [cn_z] at hk_35_2
  refine Zbb (x:=x22.speed) (y:=cn q15) (by omega) (by simp only [cn_z];omega) fun q39 h39 z39=> ?_
  simp only [cn_z] at z39
  simp only [cn_q] at h39
  refine Zir (x:=cn q35) (y:=cn q39) (by simp only [cn_z];omega) (by simp only [cn_z];omega) fun n40 h40=> ?_
  simp only [cn_q] at h40
  refine⟨by kernel_rfl,?_⟩
  refine⟨fun e2=> ?_,fun e2=> ?_⟩
  ·have f41:q39< q35:=(ZmI h40).1 (of_decide_eq_true e2)
   refine Eq.trans (b:=bool false) ?_ rfl
   rw [ZxE ⟨i,x22,x32,x27,hx22,hx32,hx27,by rw [h39,h15,hw,hk_35_1,h34] at f41;exact f41⟩]
  ·have f41:¬ (q39< q35):=fun hh=>of_decide_eq_false e2 ((ZmI h40).2 hh)
   refine⟨i+1,⟨by omega,fun j l x y hj hl hx hy=>by
    by_cases e:j=i
    ·subst e
     obtain rfl:=Option.some.inj (hx22.symm.trans hl)
     obtain rfl:=Option.some.inj (hx32.symm.trans hx)
     obtain rfl:=Option.some.inj (hx27.symm.trans hy)
     rw [h39,h15,hw,hk_35_1,h34] at f41;exact f41
    ·exact g2 j l x y (by omega) hl hx hy⟩,by simp only;omega,?_⟩
   constructor<;>(repeat' (first|exact rfl|exact True.intro|apply And.intro))
   all_goals first
    |exact congrArg (fun n:Int=>D.v (.int .i64 n)) (by rw [wrap64 _ (by omega) (by omega)];omega)
    |exact congrArg (fun n:Int=>D.v (.int .i64 n)) (by omega)
 ·have f20:¬ ((i:Int)< ((List.map lk A.links).length:Int)):=of_decide_eq_false e1
  refine Eq.trans (b:=bool true) ?_ rfl
  rw [Zv4 (by
   rintro⟨j,l,x,y,hl,hx,hy,hh⟩
   exact g2 j l x y (by have:=(List.getElem?_eq_some_iff.1 hl).1;omega) hl hx hy hh)]
theorem Zwx {A:ArmV} {p k:Int×List RV} (hA:A.ok) (hp:∀ x,x∈p.2→x.z≤1048577) (hk:∀ x,x∈k.2→x.z≤1048577) (hpl:p.2.length=A.links.length) (hkl:k.2.length=A.links.length) (hpt:0≤p.1∧p.1≤2000) (hkt:0≤k.1∧k.1≤2000) (kk:∀ b,b=slB A p k→K (bool b)):Ask 229 [.val (.agg [.d (.v (.string A.name)),.d (.v (.bool A.bx.s)),.d (.v (.string A.bx.a)),.d (.v (.string A.bx.d)),.d (.v (.bool A.by'.s)),.d (.v (.string A.by'.a)),.d (.v (.string A.by'.d)),.d (.v (.bool (A.bh))),.d (.v (.bool A.bt.s)),.d (.v (.string A.bt.a)),.d (.v (.string A.bt.d)),.d (.list (List.map lk A.links))]),.val (.agg [.d (.v (.int .i64 (p.1))),.d (.list (List.map rd p.2))]),.val (.agg [.d (.v (.int .i64 (k.1))),.d (.list (List.map rd k.2))])] K:=use (ZnP A p k hA hp hk hpl hkl hpt hkt) rfl (kk _ rfl)
set_option maxHeartbeats 4000000 in
theorem ZfL (A:ArmV) (t:List (Int×List RV)) (hA:A.ok) (ht:tz t):Spec Tryz.prog Tab 164 [.val (.agg [.d (.v (.string A.name)),.d (.v (.bool A.bx.s)),.d (.v (.string A.bx.a)),.d (.v (.string A.bx.d)),.d (.v (.bool A.by'.s)),.d (.v (.string A.by'.a)),.d (.v (.string A.by'.d)),.d (.v (.bool (A.bh))),.d (.v (.bool A.bt.s)),.d (.v (.string A.bt.a)),.d (.v (.string A.bt.d)),.d (.list (List.map lk A.links))]),.val (.one (.d (.list (List.map keyD t))))] (int (trackE A t)):=by
 have hA2:=hA
 obtain⟨z1,z2,z3,z4,z5,z6⟩:=hA
 have hL:(List.map lk A.links).length=A.links.length:=List.length_map ..
 have hLt:(List.map keyD t).length=t.length:=List.length_map ..
 have ht1:=ht.1
 refine Za Tryz.func164 rfl rfl Tryz.ntmps164 rfl (by kernel_rfl) rfl rfl ?_
 refine Zhf (A:=A) (by assumption) fun n10 hk_10_1=> ?_
 refine⟨fun e1=> ?_,fun e1=> ?_⟩
 ·have f12:n10≠0:=Zv e1
  refine Eq.trans (b:=int n10) ?_ rfl
  rw [ZdR (by rw [← hk_10_1];exact f12),← hk_10_1]
 ·have f12:¬ (n10≠0):=fun hh=>hh (Zw e1)
  have hA0:armE A=0:=by rw [← hk_10_1];exact Classical.not_not.1 f12
  refine⟨fun e2=> ?_,fun e2=> ?_⟩
  ·have f16:((List.map keyD t).length:Int)=0:=ZP e2
   refine Eq.trans (b:=int 14) ?_ rfl
   rw [Zco hA0 (by omega)]
  ·have f16:¬ (((List.map keyD t).length:Int)=0):=ZQ e2
   refine⟨fun e3=> ?_,fun e3=> ?_⟩
   ·have f19:((List.map keyD t).length:Int) >60:=of_decide_eq_true e3
    refine Eq.trans (b:=int 2) ?_ rfl
    rw [ZdQ hA0 (by omega) (by omega)]
   ·have f19:¬ (((List.map keyD t).length:Int) >60):=of_decide_eq_false e3
    refine⟨Nat,fun i=> [(1,.val (.one (.d (.list (List.map keyD t))))),(2,.val (.one (.ptr 2 0))),(20,.val (.one (.d (.list (List.map keyD t))))),(21,int ((List.map keyD t).length:Int)),(22,int (i:Int))],
     fun i=> [(2,.var 32 [.d (.v (.string A.name)),.d (.v (.bool A.bx.s)),.d (.v (.string A.bx.a)),.d (.v (.string A.bx.d)),.d (.v (.bool A.by'.s)),.d (.v (.string A.by'.a)),.d (.v (.string A.by'.d)),.d (.v (.bool (A.bh))),.d (.v (.bool A.bt.s)),.d (.v (.string A.bt.a)),.d (.v (.string A.bt.d)),.d (.list (List.map lk A.links))])],fun i=>i≤t.length∧∀ j,j< i→keyE A t j=0,fun i=>t.length - i,0,?_,⟨Nat.zero_le _,fun j h=>by omega⟩,fun i hs=> ?_⟩
    ·constructor<;>(repeat' (first|exact rfl|exact True.intro|exact⟨_,_,rfl⟩|exact(by decide)|apply And.intro))
     all_goals first|exact congrArg (fun n:Int=>D.v (.int .i64 n)) (by omega)|exact congrArg (fun n:Int=>D.v (.int .i64 n)) (by rw [wrap64 _ (by omega) (by omega)];omega)|(simp;done)
    obtain⟨g1,h1⟩:=hs
    refine⟨fun e4=> ?_,fun e4=> ?_⟩
    ·have f23:(i:Int)< ((List.map keyD t).length:Int):=of_decide_eq_true e4
     refine Zc (l:=t) (i:=i) (by first|omega|exact Nat.mod_lt _ (by omega)) fun x25 hx25=> ?_
     have hzx25:=ht.2 x25 (List.mem_of_getElem? hx25)
     refine k_ix i [D.v (.int .i64 (x25.1)),D.list (List.map rd x25.2)] (by first|rfl|omega|(rw [wrap64 _ (by omega) (by omega)];omega)) (Zb hx25) rfl ?_
     refine fork (fun e5=> ?_) (fun e5=> ?_)
     ·have f30:x25.1< 0:=of_decide_eq_true e5
      refine⟨fun _=> ?_,fun e=>absurd e (by decide)⟩
      refine Eq.trans (b:=int 1) ?_ rfl
      have hke:keyE A t i=1:=(Zgl hx25 (by rw [Zbn (.inl f30)];decide)).trans (Zbn (.inl f30))
      rw [Zao hA0 (by omega) (by omega) h1 (by rw [hke];decide),hke]
     ·have f30:¬ (x25.1< 0):=of_decide_eq_false e5
      refine⟨fun e6=> ?_,fun e6=> ?_⟩
      ·have f34:x25.1 >2000:=of_decide_eq_true e6
       refine Eq.trans (b:=int 1) ?_ rfl
       have hke:keyE A t i=1:=(Zgl hx25 (by rw [Zbn (.inr f34)];decide)).trans (Zbn (.inr f34))
       rw [Zao hA0 (by omega) (by omega) h1 (by rw [hke];decide),hke]
      ·have f34:¬ (x25.1 >2000):=of_decide_eq_false e6
       refine Zu9 (A:=A) (Q:=x25.2) (by assumption) (fun x hx=>Nat.le_trans (hzx25.2.2 x hx) (by decide)) fun n38 hk_38_1=> ?_
       refine⟨fun e7=> ?_,fun e7=> ?_⟩
       ·have f40:n38≠0:=Zv e7
        refine Eq.trans (b:=int n38) ?_ rfl
        have hke:keyE A t i=n38:=by rw [Zgl hx25 (by rw [ZdZ f30 f34,← hk_38_1];exact f40),ZdZ f30 f34,← hk_38_1]
        rw [Zao hA0 (by omega) (by omega) h1 (by rw [hke];exact f40),hke]
       ·have f40:¬ (n38≠0):=fun hh=>hh (Zw e7)
        have hk1:key1 A x25=0:=by rw [ZdZ f30 f34,← hk_38_1];exact Classical.not_not.1 f40
        have hkl:=(ZdF (ZbP.1 hk1).2).1
        have hkt:=(ZbP.1 hk1).1
        refine⟨fun e8=> ?_,fun e8=> ?_⟩
        ·have f43:(i:Int)=0:=ZP e8
         have hke:keyE A t i=0:=by
          obtain rfl:i=0:=by omega
          rw [ZtJ hx25,hk1]
         refine⟨i+1,⟨by omega,fun j hj=>by
          by_cases e:j=i
          ·rw [e];exact hke
          ·exact h1 j (by omega)⟩,by simp only;omega,?_⟩
         constructor<;>(repeat' (first|exact rfl|exact True.intro|apply And.intro))
         all_goals first
          |exact congrArg (fun n:Int=>D.v (.int .i64 n)) (by rw [wrap64 _ (by omega) (by omega)];omega)
          |exact congrArg (fun n:Int=>D.v (.int .i64 n)) (by omega)
        ·have f43:¬ ((i:Int)=0):=ZQ e8
         have hi1:0< i:=by omega
         refine Zc (l:=t) (i:=(i - 1)) (by first|omega|exact Nat.mod_lt _ (by omega)) fun x49 hx49=> ?_
         have hzx49:=ht.2 x49 (List.mem_of_getElem? hx49)
         refine k_ix (i - 1) [D.v (.int .i64 (x49.1)),D.list (List.map rd x49.2)] (by first|rfl|omega|(rw [wrap64 _ (by omega) (by omega)];omega)) (Zb hx49) rfl ?_
         refine⟨by kernel_rfl,?_⟩
         refine⟨fun e9=> ?_,fun e9=> ?_⟩
         ·have f52:x25.1≤x49.1:=of_decide_eq_true e9
          refine Eq.trans (b:=int 9) ?_ rfl
          have hke:keyE A t i=9:=(Zfk (by omega) hx49 hx25).trans (Zo1 hk1 f52)
          rw [Zao hA0 (by omega) (by omega) h1 (by rw [hke];decide),hke]
         ·have f52:¬ (x25.1≤x49.1):=of_decide_eq_false e9
          have hk0:=Zfl hx49 (h1 (i - 1) (by omega))
          have hpl:=(ZdF (ZbP.1 hk0).2).1
          have hpt:=(ZbP.1 hk0).1
          refine k_ix (i - 1) [D.v (.int .i64 (x49.1)),D.list (List.map rd x49.2)] (by first|rfl|omega|(rw [wrap64 _ (by omega) (by omega)];omega)) (Zb hx49) rfl ?_
          refine Zwx (A:=A) (p:=x49) (k:=x25) (by assumption) hzx49.2.2 hzx25.2.2 hpl hkl hpt hkt fun b60 hb60=> ?_
          refine⟨by kernel_rfl,?_⟩
          refine⟨fun e10=> ?_,fun e10=> ?_⟩
          ·have f61:¬ (slB A x49 x25=true):=fun hh=>absurd (hh.symm.trans (hb60.symm.trans (ZbZ e10))) (by decide)
           refine Eq.trans (b:=int 19) ?_ rfl
           have hke:keyE A t i=19:=(Zfk (by omega) hx49 hx25).trans (Zo2 hk1 f52 (Classical.not_not.1 fun g=>f61 (Zv4 g)))
           rw [Zao hA0 (by omega) (by omega) h1 (by rw [hke];decide),hke]
          ·have f61:¬ (¬ (slB A x49 x25=true)):=fun hh=>hh (hb60.symm.trans (Zb0 e10))
           have hke:keyE A t i=0:=(Zfk (by omega) hx49 hx25).trans (ZtK hk1 f52 (Zuj.1 (by have:=f61;simpa using this)))
           refine⟨i+1,⟨by omega,fun j hj=>by
            by_cases e:j=i
            ·rw [e];exact hke
            ·exact h1 j (by omega)⟩,by simp only;omega,?_⟩
           constructor<;>(repeat' (first|exact rfl|exact True.intro|apply And.intro))
           all_goals first
            |exact congrArg (fun n:Int=>D.v (.int .i64 n)) (by rw [wrap64 _ (by omega) (by omega)];omega)
            |exact congrArg (fun n:Int=>D.v (.int .i64 n)) (by omega)
    ·have f23:¬ ((i:Int)< ((List.map keyD t).length:Int)):=of_decide_eq_false e4
     refine Eq.trans (b:=int 0) ?_ rfl
     rw [ZhC hA0 (by omega) (by omega) fun j hj=>h1 j (by omega)]
theorem ZdA {A:ArmV} {t:List (Int×List RV)} (hA:A.ok) (ht:tz t) (k:∀ n,n=trackE A t→K (int n)):Ask 164 [.val (.agg [.d (.v (.string A.name)),.d (.v (.bool A.bx.s)),.d (.v (.string A.bx.a)),.d (.v (.string A.bx.d)),.d (.v (.bool A.by'.s)),.d (.v (.string A.by'.a)),.d (.v (.string A.by'.d)),.d (.v (.bool (A.bh))),.d (.v (.bool A.bt.s)),.d (.v (.string A.bt.a)),.d (.v (.string A.bt.d)),.d (.list (List.map lk A.links))]),.val (.one (.d (.list (List.map keyD t))))] K:=use (ZfL A t hA ht) rfl (k _ rfl)
end
end Go.Proofs.YtpfemjpgbpnpkaaGreatDoor.eng
namespace Go.Proofs.YtpfemjpgbpnpkaaGreatDoor.eng
open Go.RowKit num mem seg q held ratA ratB ratC ratD ratE vars ratF argopen
section
variable {K : AV → Prop}
set_option maxHeartbeats 4000000 in
theorem ZmY (A:ArmV) (Q:List RV) (hA:A.ok) (hQ:∀ x,x∈Q→x.z≤67108864) (hQn:Q.length≤1073741824):Spec Tryz.prog Tab 17 [.val (.agg [.d (.v (.string A.name)),.d (.v (.bool A.bx.s)),.d (.v (.string A.bx.a)),.d (.v (.string A.bx.d)),.d (.v (.bool A.by'.s)),.d (.v (.string A.by'.a)),.d (.v (.string A.by'.d)),.d (.v (.bool (A.bh))),.d (.v (.bool A.bt.s)),.d (.v (.string A.bt.a)),.d (.v (.string A.bt.d)),.d (.list (List.map lk A.links))]),.val (.one (.d (.list (List.map rd Q))))] (int (fitsE A Q)):=by
 have hA2:=hA
 obtain⟨z1,z2,z3,z4,z5,z6⟩:=hA
 have hL:(List.map lk A.links).length=A.links.length:=List.length_map ..
 have hLq:(List.map rd Q).length=Q.length:=List.length_map ..
 refine Za Tryz.func17 rfl rfl Tryz.ntmps17 rfl (by kernel_rfl) rfl rfl ?_
 refine Zd0 (A:=A) (n:=((List.map rd Q).length:Int)) (by assumption) fun n11 hk_11_1=> ?_
 rw [List.length_map] at hk_11_1
 have hz0:n11=ffE A Q 0:=by rw [Zx3,hk_11_1]
 refine⟨Nat,fun i=> [(2,.val (.one (.ptr 2 0))),(5,int (ffE A Q i)),(12,.val (.one (.d (.list (List.map rd Q))))),(13,int ((List.map rd Q).length:Int)),(14,int (i:Int))],
  fun i=> [(2,.var 32 [.d (.v (.string A.name)),.d (.v (.bool A.bx.s)),.d (.v (.string A.bx.a)),.d (.v (.string A.bx.d)),.d (.v (.bool A.by'.s)),.d (.v (.string A.by'.a)),.d (.v (.string A.by'.d)),.d (.v (.bool (A.bh))),.d (.v (.bool A.bt.s)),.d (.v (.string A.bt.a)),.d (.v (.string A.bt.d)),.d (.list (List.map lk A.links))])],fun i=>i≤Q.length,fun i=>Q.length - i,0,?_,Nat.zero_le _,fun i hs=> ?_⟩
 ·constructor<;>(repeat' (first|exact rfl|exact True.intro|exact⟨_,_,rfl⟩|exact(by decide)|apply And.intro))
  all_goals first
   |exact congrArg (fun n:Int=>D.v (.int .i64 n)) hz0
   |exact congrArg (fun n:Int=>D.v (.int .i64 n)) hz0.symm
   |exact congrArg (fun n:Int=>D.v (.int .i64 n)) (by omega)
   |(simp;done)
 refine⟨fun e1=> ?_,fun e1=> ?_⟩
 ·have f15:(i:Int)< ((List.map rd Q).length:Int):=of_decide_eq_true e1
  refine Zc (l:=Q) (i:=i) (by first|omega|exact Nat.mod_lt _ (by omega)) fun x17 hx17=> ?_
  have hzx17:=hQ x17 (List.mem_of_getElem? hx17)
  refine k_ix i [D.v (.bool x17.s),D.v (.string x17.a),D.v (.string x17.d)] (by first|rfl|omega|(rw [wrap64 _ (by omega) (by omega)];omega)) (Zb hx17) rfl ?_
  refine fork (fun e2=> ?_) (fun e2=> ?_)
  ·have f21:ffE A Q i=0:=ZP e2
   refine Zc (l:=A.links) (i:=i) (by have:=(ZI.1 (ZpF f21).1).2;omega) fun x25 hx25=> ?_
   obtain⟨hs1x25,hs2x25,hs3x25,hs4x25,hs5,hs6,hs7⟩:=z6 x25 (List.mem_of_getElem? hx25)
   refine k_ix i [D.v (.bool x25.len.s),D.v (.string x25.len.a),D.v (.string x25.len.d),D.v (.bool x25.low.s),D.v (.string x25.low.a),D.v (.string x25.low.d),D.v (.bool x25.high.s),D.v (.string x25.high.a),D.v (.string x25.high.d),D.v (.bool x25.speed.s),D.v (.string x25.speed.a),D.v (.string x25.speed.d),D.v (.bool x25.brake.s),D.v (.string x25.brake.a),D.v (.string x25.brake.d),D.list (List.map rdv x25.shape)] (by first|rfl|omega|(rw [wrap64 _ (by omega) (by omega)];omega)) (Zb hx25) rfl ?_
   refine Zr (x:=x25.low) (by omega) fun q28 h28 z28=> ?_
   refine k_ix i [D.v (.bool x25.len.s),D.v (.string x25.len.a),D.v (.string x25.len.d),D.v (.bool x25.low.s),D.v (.string x25.low.a),D.v (.string x25.low.d),D.v (.bool x25.high.s),D.v (.string x25.high.a),D.v (.string x25.high.d),D.v (.bool x25.speed.s),D.v (.string x25.speed.a),D.v (.string x25.speed.d),D.v (.bool x25.brake.s),D.v (.string x25.brake.a),D.v (.string x25.brake.d),D.list (List.map rdv x25.shape)] (by first|rfl|omega|(rw [wrap64 _ (by omega) (by omega)];omega)) (Zb hx25) rfl ?_
   refine Zr (x:=x25.high) (by omega) fun q35 h35 z35=> ?_
   refine Zr (x:=x17) (by omega) fun q38 h38 z38=> ?_
   refine Zu4 (p:=q28) (q:=q35) (a:=q38) (by omega) (by omega) (by omega) (fun b39 hk_39_1=> ?_)
   refine⟨by kernel_rfl,?_⟩
   refine⟨fun e3=> ?_,fun e3=> ?_⟩
   ·have f41:¬ (hasQ q28 q35 q38=true):=fun hh=>absurd (hh.symm.trans (hk_39_1.symm.trans (ZbZ e3))) (by decide)
    have hf:x17.q< x25.low.q∨x25.high.q< x17.q:=Classical.byContradiction fun hh=>f41 (Zle.2 ⟨by rw [h28,h38];exact Rat.not_lt.1 fun h=>hh (.inl h),by rw [h35,h38];exact Rat.not_lt.1 fun h=>hh (.inr h)⟩)
    have he:(17:Int)=ffE A Q (i+1):=(Zvc f21 hx25 hx17 hf).symm
    refine⟨i+1,by omega,by simp only;omega,?_⟩
    constructor<;>(repeat' (first|exact rfl|exact True.intro|apply And.intro))
    all_goals first
     |exact congrArg (fun n:Int=>D.v (.int .i64 n)) he
     |exact congrArg (fun n:Int=>D.v (.int .i64 n)) he.symm
     |exact congrArg (fun n:Int=>D.v (.int .i64 n)) (by rw [wrap64 _ (by omega) (by omega)];omega)
     |exact congrArg (fun n:Int=>D.v (.int .i64 n)) (by omega)
   ·have f41:¬ (¬ (hasQ q28 q35 q38=true)):=fun hh=>hh (hk_39_1.symm.trans (Zb0 e3))
    have hf:¬ (x17.q< x25.low.q∨x25.high.q< x17.q):=by
     have hb:=Zle.1 (Classical.not_not.1 f41)
     rw [h28,h35,h38] at hb
     rintro(h|h)
     ·exact absurd hb.1 (Rat.not_le.2 h)
     ·exact absurd hb.2 (Rat.not_le.2 h)
    have he:ffE A Q i=ffE A Q (i+1):=by rw [ZsD f21 hx25 hx17 hf,f21]
    refine⟨i+1,by omega,by simp only;omega,?_⟩
    constructor<;>(repeat' (first|exact rfl|exact True.intro|apply And.intro))
    all_goals first
     |exact congrArg (fun n:Int=>D.v (.int .i64 n)) he
     |exact congrArg (fun n:Int=>D.v (.int .i64 n)) he.symm
     |exact congrArg (fun n:Int=>D.v (.int .i64 n)) (by rw [wrap64 _ (by omega) (by omega)];omega)
     |exact congrArg (fun n:Int=>D.v (.int .i64 n)) (by omega)
  ·have f21:¬ (ffE A Q i=0):=ZQ e2
   refine⟨by kernel_rfl,?_⟩
   refine⟨fun e=>absurd e (by decide),fun _=> ?_⟩
   have he:ffE A Q i=ffE A Q (i+1):=(Zw1 f21).symm
   refine⟨i+1,by omega,by simp only;omega,?_⟩
   constructor<;>(repeat' (first|exact rfl|exact True.intro|apply And.intro))
   all_goals first
    |exact congrArg (fun n:Int=>D.v (.int .i64 n)) he
    |exact congrArg (fun n:Int=>D.v (.int .i64 n)) he.symm
    |exact congrArg (fun n:Int=>D.v (.int .i64 n)) (by rw [wrap64 _ (by omega) (by omega)];omega)
    |exact congrArg (fun n:Int=>D.v (.int .i64 n)) (by omega)
 ·have f15:¬ ((i:Int)< ((List.map rd Q).length:Int)):=of_decide_eq_false e1
  refine Eq.trans (b:=int (ffE A Q i)) ?_ rfl
  rw [← Zvd (n:=i) (by omega)]
theorem Zu8 {A:ArmV} {Q:List RV} (hA:A.ok) (hQ:∀ x,x∈Q→x.z≤67108864) (hQn:Q.length≤1073741824) (k:∀ n,n=fitsE A Q→K (int n)):Ask 17 [.val (.agg [.d (.v (.string A.name)),.d (.v (.bool A.bx.s)),.d (.v (.string A.bx.a)),.d (.v (.string A.bx.d)),.d (.v (.bool A.by'.s)),.d (.v (.string A.by'.a)),.d (.v (.string A.by'.d)),.d (.v (.bool (A.bh))),.d (.v (.bool A.bt.s)),.d (.v (.string A.bt.a)),.d (.v (.string A.bt.d)),.d (.list (List.map lk A.links))]),.val (.one (.d (.list (List.map rd Q))))] K:=use (ZmY A Q hA hQ hQn) rfl (k _ rfl)
set_option maxHeartbeats 8000000 in
theorem ZiT (A:ArmV) (t:List (Int×List RV)) (hA:A.ok) (ht:tz t):Spec Tryz.prog Tab 68 [.val (.agg [.d (.v (.string A.name)),.d (.v (.bool A.bx.s)),.d (.v (.string A.bx.a)),.d (.v (.string A.bx.d)),.d (.v (.bool A.by'.s)),.d (.v (.string A.by'.a)),.d (.v (.string A.by'.d)),.d (.v (.bool (A.bh))),.d (.v (.bool A.bt.s)),.d (.v (.string A.bt.a)),.d (.v (.string A.bt.d)),.d (.list (List.map lk A.links))]),.val (.one (.d (.list (List.map keyD t))))] (int (trackE A t)):=by
 have hA2:=hA
 obtain⟨z1,z2,z3,z4,z5,z6⟩:=hA
 have hL:(List.map lk A.links).length=A.links.length:=List.length_map ..
 have hLt:(List.map keyD t).length=t.length:=List.length_map ..
 have ht1:=ht.1
 refine Za Tryz.func68 rfl rfl Tryz.ntmps68 rfl (by kernel_rfl) rfl rfl ?_
 refine Zd1 (A:=A) (by assumption) fun n12 hk_12_1=> ?_
 refine⟨fun e1=> ?_,fun e1=> ?_⟩
 ·have f14:n12≠0:=Zv e1
  refine Eq.trans (b:=int n12) ?_ rfl
  rw [ZdR (by rw [← hk_12_1];exact f14),← hk_12_1]
 ·have f14:¬ (n12≠0):=fun hh=>hh (Zw e1)
  have hA0:armE A=0:=by rw [← hk_12_1];exact Classical.not_not.1 f14
  refine⟨fun e2=> ?_,fun e2=> ?_⟩
  ·have f18:((List.map keyD t).length:Int)=0:=ZP e2
   refine Eq.trans (b:=int 14) ?_ rfl
   rw [Zco hA0 (by omega)]
  ·have f18:¬ (((List.map keyD t).length:Int)=0):=ZQ e2
   refine⟨fun e3=> ?_,fun e3=> ?_⟩
   ·have f21:((List.map keyD t).length:Int) >60:=of_decide_eq_true e3
    refine Eq.trans (b:=int 2) ?_ rfl
    rw [ZdQ hA0 (by omega) (by omega)]
   ·have f21:¬ (((List.map keyD t).length:Int) >60):=of_decide_eq_false e3
    refine⟨Nat,fun i=> [(1,.val (.one (.d (.list (List.map keyD t))))),(2,.val (.one (.ptr 2 0))),(22,.val (.one (.d (.list (List.map keyD t))))),(23,int ((List.map keyD t).length:Int)),(24,int (i:Int))],
     fun i=> [(2,.var 32 [.d (.v (.string A.name)),.d (.v (.bool A.bx.s)),.d (.v (.string A.bx.a)),.d (.v (.string A.bx.d)),.d (.v (.bool A.by'.s)),.d (.v (.string A.by'.a)),.d (.v (.string A.by'.d)),.d (.v (.bool (A.bh))),.d (.v (.bool A.bt.s)),.d (.v (.string A.bt.a)),.d (.v (.string A.bt.d)),.d (.list (List.map lk A.links))])],fun i=>i≤t.length∧∀ j,j< i→keyE A t j=0,fun i=>t.length - i,0,?_,⟨Nat.zero_le _,fun j h=>by omega⟩,fun i hs=> ?_⟩
    ·constructor<;>(repeat' (first|exact rfl|exact True.intro|exact⟨_,_,rfl⟩|exact(by decide)|apply And.intro))
     all_goals first|exact congrArg (fun n:Int=>D.v (.int .i64 n)) (by omega)|exact congrArg (fun n:Int=>D.v (.int .i64 n)) (by rw [wrap64 _ (by omega) (by omega)];omega)|(simp;done)
    obtain⟨g1,h1⟩:=hs
    refine⟨fun e4=> ?_,fun e4=> ?_⟩
    ·have f25:(i:Int)< ((List.map keyD t).length:Int):=of_decide_eq_true e4
     refine Zc (l:=t) (i:=i) (by first|omega|exact Nat.mod_lt _ (by omega)) fun x27 hx27=> ?_
     have hzx27:=ht.2 x27 (List.mem_of_getElem? hx27)
     refine k_ix i [D.v (.int .i64 (x27.1)),D.list (List.map rd x27.2)] (by first|rfl|omega|(rw [wrap64 _ (by omega) (by omega)];omega)) (Zb hx27) rfl ?_
     refine fork (fun e5=> ?_) (fun e5=> ?_)
     ·have f32:x27.1< 0:=of_decide_eq_true e5
      refine⟨fun _=> ?_,fun e=>absurd e (by decide)⟩
      refine Eq.trans (b:=int 1) ?_ rfl
      have hke:keyE A t i=1:=(Zgl hx27 (by rw [Zbn (.inl f32)];decide)).trans (Zbn (.inl f32))
      rw [Zao hA0 (by omega) (by omega) h1 (by rw [hke];decide),hke]
     ·have f32:¬ (x27.1< 0):=of_decide_eq_false e5
      refine⟨fun e6=> ?_,fun e6=> ?_⟩
      ·have f36:x27.1 >2000:=of_decide_eq_true e6
       refine Eq.trans (b:=int 1) ?_ rfl
       have hke:keyE A t i=1:=(Zgl hx27 (by rw [Zbn (.inr f36)];decide)).trans (Zbn (.inr f36))
       rw [Zao hA0 (by omega) (by omega) h1 (by rw [hke];decide),hke]
      ·have f36:¬ (x27.1 >2000):=of_decide_eq_false e6
       refine Zu8 (A:=A) (Q:=x27.2) (by assumption) (fun x hx=>Nat.le_trans (hzx27.2.2 x hx) (by decide)) (Nat.le_trans hzx27.2.1 (by decide)) fun n40 hk_40_1=> ?_
       refine⟨fun e7=> ?_,fun e7=> ?_⟩
       ·have f42:n40≠0:=Zv e7
        refine Eq.trans (b:=int n40) ?_ rfl
        have hke:keyE A t i=n40:=by rw [Zgl hx27 (by rw [ZdZ f32 f36,← hk_40_1];exact f42),ZdZ f32 f36,← hk_40_1]
        rw [Zao hA0 (by omega) (by omega) h1 (by rw [hke];exact f42),hke]
       ·have f42:¬ (n40≠0):=fun hh=>hh (Zw e7)
        have hk1:key1 A x27=0:=by rw [ZdZ f32 f36,← hk_40_1];exact Classical.not_not.1 f42
        have hkl:=(ZdF (ZbP.1 hk1).2).1
        have hkt:=(ZbP.1 hk1).1
        refine fork (fun e8=> ?_) (fun e8=> ?_)
        ·have f46:(i:Int) >0:=of_decide_eq_true e8
         refine Zc (l:=t) (i:=(i - 1)) (by first|omega|exact Nat.mod_lt _ (by omega)) fun x52 hx52=> ?_
         have hzx52:=ht.2 x52 (List.mem_of_getElem? hx52)
         refine k_ix (i - 1) [D.v (.int .i64 (x52.1)),D.list (List.map rd x52.2)] (by first|rfl|omega|(rw [wrap64 _ (by omega) (by omega)];omega)) (Zb hx52) rfl ?_
         refine⟨by kernel_rfl,?_⟩
         refine⟨fun e9=> ?_,fun e9=> ?_⟩
         ·have f56:x27.1≤x52.1:=of_decide_eq_true e9
          refine Eq.trans (b:=int 9) ?_ rfl
          have hke:keyE A t i=9:=(Zfk (by omega) hx52 hx27).trans (Zo1 hk1 f56)
          rw [Zao hA0 (by omega) (by omega) h1 (by rw [hke];decide),hke]
         ·have f56:¬ (x27.1≤x52.1):=of_decide_eq_false e9
          have hk0:=Zfl hx52 (h1 (i - 1) (by omega))
          have hpl:=(ZdF (ZbP.1 hk0).2).1
          have hpt:=(ZbP.1 hk0).1
          have hw:IntKind.i64.wrap (x27.1 - x52.1)=x27.1 - x52.1:=wrap64 _ (by omega) (by omega)
          have hLp:(List.map rd x52.2).length=x52.2.length:=List.length_map ..
          refine⟨Nat,fun j=> [(1,.val (.one (.d (.list (List.map keyD t))))),(2,.val (.one (.ptr 2 0))),(6,int (i:Int)),(7,.val (.one (.ptr 7 0))),(22,.val (.one (.d (.list (List.map keyD t))))),(23,int ((List.map keyD t).length:Int)),(24,int (i:Int)),(33,.val (.one (.ptr 7 0))),(34,int x27.1),(35,bool (decide (x27.1 >2000))),(47,.val (.one (.ptr 7 0))),(48,int x27.1),(49,.val (.one (.d (.list (List.map keyD t))))),(50,int (i:Int)),(51,int (IntKind.i64.wrap ((i:Int) - 1))),(52,.val (.one (.ref [D.v (.int .i64 (x52.1)),D.list (List.map rd x52.2)]))),(53,.val (.one (.ref [D.v (.int .i64 (x52.1)),D.list (List.map rd x52.2)]))),(54,int x52.1),(55,bool (decide (x27.1≤x52.1))),(58,.val (.one (.d (.list (List.map lk A.links))))),(59,int ((List.map lk A.links).length:Int)),(60,int (j:Int))],
           fun j=> [(2,.var 32 [.d (.v (.string A.name)),.d (.v (.bool A.bx.s)),.d (.v (.string A.bx.a)),.d (.v (.string A.bx.d)),.d (.v (.bool A.by'.s)),.d (.v (.string A.by'.a)),.d (.v (.string A.by'.d)),.d (.v (.bool (A.bh))),.d (.v (.bool A.bt.s)),.d (.v (.string A.bt.a)),.d (.v (.string A.bt.d)),.d (.list (List.map lk A.links))]),(7,.var 123 [.d (.v (.int .i64 (x27.1))),.d (.list (List.map rd x27.2))])],fun j=>j≤A.links.length∧∀ (m:Nat) (l:LinkV) (x y:RV),m< j→A.links[m]? =some l→x52.2[m]? =some x→x27.2[m]? =some y→¬ (l.speed.q*(((x27.1 - x52.1:Int)):Rat)< absV (y.q - x.q)),fun j=>A.links.length - j,0,?_,⟨Nat.zero_le _,fun m l x y h=>by omega⟩,fun j hs=> ?_⟩
          ·constructor<;>(repeat' (first|exact rfl|exact True.intro|exact⟨_,_,rfl⟩|exact(by decide)|apply And.intro))
           all_goals first|exact congrArg (fun n:Int=>D.v (.int .i64 n)) (by omega)|exact congrArg (fun n:Int=>D.v (.int .i64 n)) (by rw [wrap64 _ (by omega) (by omega)];omega)|(simp;done)
          obtain⟨g3,g4⟩:=hs
          refine⟨fun e10=> ?_,fun e10=> ?_⟩
          ·have f61:(j:Int)< ((List.map lk A.links).length:Int):=of_decide_eq_true e10
           refine Zc (l:=A.links) (i:=j) (by first|omega|exact Nat.mod_lt _ (by omega)) fun x63 hx63=> ?_
           obtain⟨hs1x63,hs2x63,hs3x63,hs4x63,hs5,hs6,hs7⟩:=z6 x63 (List.mem_of_getElem? hx63)
           refine k_ix j [D.v (.bool x63.len.s),D.v (.string x63.len.a),D.v (.string x63.len.d),D.v (.bool x63.low.s),D.v (.string x63.low.a),D.v (.string x63.low.d),D.v (.bool x63.high.s),D.v (.string x63.high.a),D.v (.string x63.high.d),D.v (.bool x63.speed.s),D.v (.string x63.speed.a),D.v (.string x63.speed.d),D.v (.bool x63.brake.s),D.v (.string x63.brake.a),D.v (.string x63.brake.d),D.list (List.map rdv x63.shape)] (by first|rfl|omega|(rw [wrap64 _ (by omega) (by omega)];omega)) (Zb hx63) rfl ?_
           refine fork (fun e11=> ?_) (fun e11=> ?_)
           ·have f67:(i:Int) >0:=of_decide_eq_true e11
            refine Zc (l:=x27.2) (i:=j) (by first|omega|exact Nat.mod_lt _ (by omega)) fun x71 hx71=> ?_
            have hzx71:=hzx27.2.2 x71 (List.mem_of_getElem? hx71)
            refine k_ix j [D.v (.bool x71.s),D.v (.string x71.a),D.v (.string x71.d)] (by first|rfl|omega|(rw [wrap64 _ (by omega) (by omega)];omega)) (Zb hx71) rfl ?_
            refine Zr (x:=x71) (by omega) fun q73 h73 z73=> ?_
            refine k_ix (i - 1) [D.v (.int .i64 (x52.1)),D.list (List.map rd x52.2)] (by first|rfl|omega|(rw [wrap64 _ (by omega) (by omega)];omega)) (Zb hx52) rfl ?_
            refine Zc (l:=x52.2) (i:=j) (by first|omega|exact Nat.mod_lt _ (by omega)) fun x81 hx81=> ?_
            have hzx81:=hzx52.2.2 x81 (List.mem_of_getElem? hx81)
            refine k_ix j [D.v (.bool x81.s),D.v (.string x81.a),D.v (.string x81.d)] (by first|rfl|omega|(rw [wrap64 _ (by omega) (by omega)];omega)) (Zb hx81) rfl ?_
            refine Zr (x:=x81) (by omega) fun q83 h83 z83=> ?_
            refine ZaJ (p:=q73) (q:=q83) (by omega) (by omega) fun q84 h84 z84=> ?_
            refine Zph (q:=q84)  (fun r85 hk_85_1 hk_85_2=> ?_)
            refine Zr (x:=x63.speed) (by omega) fun q88 h88 z88=> ?_
            refine k_ix (i - 1) [D.v (.int .i64 (x52.1)),D.list (List.map rd x52.2)] (by first|rfl|omega|(rw [wrap64 _ (by omega) (by omega)];omega)) (Zb hx52) rfl ?_
            refine k_N3 (IntKind.i64.wrap (x27.1 - x52.1)) (by omega) (by omega) fun q98 h98 z98=> ?_
            refine Zay (p:=q88) (q:=q98) (by omega) (by omega) fun q99 h99 z99=> ?_
            refine Zbo (p:=r85) (q:=q99) (by omega) (by omega) fun n100 h100=> ?_
            refine⟨by kernel_rfl,?_⟩
            refine⟨fun e12=> ?_,fun e12=> ?_⟩
            ·have f102:q99< r85:=(ZfU h100).1 (of_decide_eq_true e12)
             refine Eq.trans (b:=int 19) ?_ rfl
             have hke:keyE A t i=19:=(Zfk (by omega) hx52 hx27).trans (Zo2 hk1 f56 ⟨j,x63,x81,x71,hx63,hx81,hx71,by rw [h99,h88,h98,hw,hk_85_1,h84,h73,h83] at f102;exact f102⟩)
             rw [Zao hA0 (by omega) (by omega) h1 (by rw [hke];decide),hke]
            ·have f102:¬ (q99< r85):=fun hh=>of_decide_eq_false e12 ((ZfU h100).2 hh)
             refine⟨j+1,⟨by omega,fun m l x y hj hl hx hy=>by
              by_cases e:m=j
              ·subst e
               obtain rfl:=Option.some.inj (hx63.symm.trans hl)
               obtain rfl:=Option.some.inj (hx81.symm.trans hx)
               obtain rfl:=Option.some.inj (hx71.symm.trans hy)
               rw [h99,h88,h98,hw,hk_85_1,h84,h73,h83] at f102;exact f102
              ·exact g4 m l x y (by omega) hl hx hy⟩,by simp only;omega,?_⟩
             constructor<;>(repeat' (first|exact rfl|exact True.intro|apply And.intro))
             all_goals first
              |exact congrArg (fun n:Int=>D.v (.int .i64 n)) (by rw [wrap64 _ (by omega) (by omega)];omega)
              |exact congrArg (fun n:Int=>D.v (.int .i64 n)) (by omega)
           ·have f67:¬ ((i:Int) >0):=of_decide_eq_false e11
            exfalso
            exact f67 f46
          ·have f61:¬ ((j:Int)< ((List.map lk A.links).length:Int)):=of_decide_eq_false e10
           have hnf:¬ fastP A x52 x27:=by
            rintro⟨m,l,x,y,hl,hx,hy,hh⟩
            exact g4 m l x y (by have:=(List.getElem?_eq_some_iff.1 hl).1;omega) hl hx hy hh
           have hke:keyE A t i=0:=(Zfk (by omega) hx52 hx27).trans (ZtK hk1 f56 hnf)
           refine⟨i+1,⟨by omega,fun j hj=>by
            by_cases e:j=i
            ·rw [e];exact hke
            ·exact h1 j (by omega)⟩,by simp only;omega,?_⟩
           constructor<;>(repeat' (first|exact rfl|exact True.intro|apply And.intro))
           all_goals first
            |exact congrArg (fun n:Int=>D.v (.int .i64 n)) (by rw [wrap64 _ (by omega) (by omega)];omega)
            |exact congrArg (fun n:Int=>D.v (.int .i64 n)) (by omega)
        ·have f46:¬ ((i:Int) >0):=of_decide_eq_false e8
         refine⟨by kernel_rfl,?_⟩
         refine⟨fun e=>absurd e (by decide),fun _=> ?_⟩
         refine⟨Nat,fun j=> [(1,.val (.one (.d (.list (List.map keyD t))))),(2,.val (.one (.ptr 2 0))),(6,int (i:Int)),(7,.val (.one (.ptr 7 0))),(22,.val (.one (.d (.list (List.map keyD t))))),(23,int ((List.map keyD t).length:Int)),(24,int (i:Int)),(33,.val (.one (.ptr 7 0))),(34,int x27.1),(35,bool (decide (x27.1 >2000))),(47,.tup []),(48,.tup []),(49,.tup []),(50,.tup []),(51,.tup []),(52,.tup []),(53,.tup []),(54,.tup []),(55,.tup []),(58,.val (.one (.d (.list (List.map lk A.links))))),(59,int ((List.map lk A.links).length:Int)),(60,int (j:Int))],
          fun j=> [(2,.var 32 [.d (.v (.string A.name)),.d (.v (.bool A.bx.s)),.d (.v (.string A.bx.a)),.d (.v (.string A.bx.d)),.d (.v (.bool A.by'.s)),.d (.v (.string A.by'.a)),.d (.v (.string A.by'.d)),.d (.v (.bool (A.bh))),.d (.v (.bool A.bt.s)),.d (.v (.string A.bt.a)),.d (.v (.string A.bt.d)),.d (.list (List.map lk A.links))]),(7,.var 123 [.d (.v (.int .i64 (x27.1))),.d (.list (List.map rd x27.2))])],fun j=>j≤A.links.length,fun j=>A.links.length - j,0,?_,Nat.zero_le _,fun j hs=> ?_⟩
         ·constructor<;>(repeat' (first|exact rfl|exact True.intro|exact⟨_,_,rfl⟩|exact(by decide)|apply And.intro))
          all_goals first|exact congrArg (fun n:Int=>D.v (.int .i64 n)) (by omega)|exact congrArg (fun n:Int=>D.v (.int .i64 n)) (by rw [wrap64 _ (by omega) (by omega)];omega)|(simp;done)
         refine⟨fun e13=> ?_,fun e13=> ?_⟩
         ·have f61:(j:Int)< ((List.map lk A.links).length:Int):=of_decide_eq_true e13
          refine Zc (l:=A.links) (i:=j) (by first|omega|exact Nat.mod_lt _ (by omega)) fun x63 hx63=> ?_
          obtain⟨hs1x63,hs2x63,hs3x63,hs4x63,hs5,hs6,hs7⟩:=z6 x63 (List.mem_of_getElem? hx63)
          refine k_ix j [D.v (.bool x63.len.s),D.v (.string x63.len.a),D.v (.string x63.len.d),D.v (.bool x63.low.s),D.v (.string x63.low.a),D.v (.string x63.low.d),D.v (.bool x63.high.s),D.v (.string x63.high.a),D.v (.string x63.high.d),D.v (.bool x63.speed.s),D.v (.string x63.speed.a),D.v (.string x63.speed.d),D.v (.bool x63.brake.s),D.v (.string x63.brake.a),D.v (.string x63.brake.d),D.list (List.map rdv x63.shape)] (by first|rfl|omega|(rw [wrap64 _ (by omega) (by omega)];omega)) (Zb hx63) rfl ?_
          refine fork (fun e14=> ?_) (fun e14=> ?_)
          ·have f67:(i:Int) >0:=of_decide_eq_true e14
           exfalso
           exact f46 f67
          ·have f67:¬ ((i:Int) >0):=of_decide_eq_false e14
           refine⟨by kernel_rfl,?_⟩
           refine⟨fun e=>absurd e (by decide),fun _=> ?_⟩
           refine⟨j+1,by omega,by simp only;omega,?_⟩
           constructor<;>(repeat' (first|exact rfl|exact True.intro|apply And.intro))
           all_goals first
            |exact congrArg (fun n:Int=>D.v (.int .i64 n)) (by rw [wrap64 _ (by omega) (by omega)];omega)
            |exact congrArg (fun n:Int=>D.v (.int .i64 n)) (by omega)
         ·have f61:¬ ((j:Int)< ((List.map lk A.links).length:Int)):=of_decide_eq_false e13
          have hke:keyE A t i=0:=by
           obtain rfl:i=0:=by omega
           rw [ZtJ hx27,hk1]
          refine⟨i+1,⟨by omega,fun j hj=>by
           by_cases e:j=i
           ·rw [e];exact hke
           ·exact h1 j (by omega)⟩,by simp only;omega,?_⟩
          constructor<;>(repeat' (first|exact rfl|exact True.intro|apply And.intro))
          all_goals first
           |exact congrArg (fun n:Int=>D.v (.int .i64 n)) (by rw [wrap64 _ (by omega) (by omega)];omega)
           |exact congrArg (fun n:Int=>D.v (.int .i64 n)) (by omega)
    ·have f25:¬ ((i:Int)< ((List.map keyD t).length:Int)):=of_decide_eq_false e4
     refine Eq.trans (b:=int 0) ?_ rfl
     rw [ZhC hA0 (by omega) (by omega) fun j hj=>h1 j (by omega)]
theorem ZtV {A:ArmV} {t:List (Int×List RV)} (hA:A.ok) (ht:tz t) (k:∀ n,n=trackE A t→K (int n)):Ask 68 [.val (.agg [.d (.v (.string A.name)),.d (.v (.bool A.bx.s)),.d (.v (.string A.bx.a)),.d (.v (.string A.bx.d)),.d (.v (.bool A.by'.s)),.d (.v (.string A.by'.a)),.d (.v (.string A.by'.d)),.d (.v (.bool (A.bh))),.d (.v (.bool A.bt.s)),.d (.v (.string A.bt.a)),.d (.v (.string A.bt.d)),.d (.list (List.map lk A.links))]),.val (.one (.d (.list (List.map keyD t))))] K:=use (ZiT A t hA ht) rfl (k _ rfl)
end
end Go.Proofs.YtpfemjpgbpnpkaaGreatDoor.eng
