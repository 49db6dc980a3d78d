/- Contract of gantlaw3.TrackEdits: it returns true. Printed by wip/gp_edit.py. -/
import Derived.Test.YtpfemjpgbpnpkaaGreatDoorGrp5
namespace Go.Proofs.YtpfemjpgbpnpkaaGreatDoor.eng
open Go.RowKit num mem seg q held ratA ratB ratC ratD ratE vars ratF argopen trq
section
variable {K : AV → Prop}
theorem Ztf {t:List (Int×List RV)} {N:Nat} (h:trackZ t N) (hN:N≤1048576):tz1 t:=ZgA h hN
theorem Zx2 {t:List (Int×List RV)} (h:tz1 t):∀ x,x∈t.map gdK→x.2.length≤1048576:=by
 intro x hx
 obtain⟨k,hk,rfl⟩:=List.mem_map.1 hx
 show (qsL k.2).length≤_
 rw [Zb7];exact(h.2 k hk).2.1
theorem Zpu {A:ArmV} {t u:List (Int×List RV)} (ht:tz1 t) (hu:tz1 u) (h0:trackE A t=0) (g0:trackE A u=0) (hj:joinE A t u=0):(joinV A t u).length≤1048576∧∀ x,x∈joinV A t u→x.2.length≤1048576:=by
 have h:=ZgF ht hu (len60 h0) (len60 g0)
 rw [Zhg hj]
 exact⟨by rw [List.length_map];exact h.1,Zx2 h⟩
theorem ZlN {A:ArmV} {t:List (Int×List RV)} {s e:Int} (ht:tz1 t) (hs:-9223372036854775808≤s∧s≤9223372036854775807) (he:-9223372036854775808≤e∧e≤9223372036854775807) (h0:trackE A t=0):(tcV A t s e).length≤1048576∧∀ x,x∈tcV A t s e→x.2.length≤1048576:=by
 rw [(Zbf h0).2]
 by_cases h:ctE t s e=0
 ·rw [ZiH h,← Zj4 h0 s e]
  refine⟨?_,fun x hx=> ?_⟩
  ·have:=Zhp t s e
   have:=len60 h0
   simp only [cutI2,List.length_map,List.length_cons,List.length_append,List.length_nil];omega
  ·obtain⟨n,hn,rfl⟩:=List.mem_map.1 hx
   exact(atL_z (Zbd ht) (Zj5 ht hs he hn)).2
 ·rw [Zcj h];exact⟨Nat.zero_le _,fun x hx=>by simp at hx⟩
theorem ZmE {A:ArmV} {t:List (Int×List RV)} {d:Int} (ht:tz1 t) (h0:trackE A t=0):(dlV A t d).length≤1048576∧∀ x,x∈dlV A t d→x.2.length≤1048576:=by
 rw [(ZbY h0).2]
 by_cases h:dyE t d=0
 ·rw [ZpQ h]
  refine⟨by rw [ZjY];exact ht.1,fun x hx=> ?_⟩
  unfold dlT at hx
  rw [List.take_of_length_le (Nat.le_refl _),List.drop_length,List.map_nil,List.append_nil] at hx
  obtain⟨k,hk,rfl⟩:=List.mem_map.1 hx
  show (qsL k.2).length≤_
  rw [Zb7];exact(ht.2 k hk).2.1
 ·rw [ZdG h];exact⟨Nat.zero_le _,fun x hx=>by simp at hx⟩
set_option maxHeartbeats 8000000 in
set_option maxRecDepth 100000 in
theorem ZeP (A:ArmV) (t u:List (Int×List RV)) (s e d:Int) (hA:A.ok) (ht:tz1 t) (hu:tz1 u) (hs:-9223372036854775808≤s∧s≤9223372036854775807) (he:-9223372036854775808≤e∧e≤9223372036854775807) (hd:-9223372036854775808≤d∧d≤9223372036854775807):Spec Tryz.prog Tab 8 [.val (.agg [.d (.v (.string A.name)),.d (.v (.bool A.bx.s)),.d (.v (.string A.bx.a)),.d (.v (.string A.bx.d)),.d (.v (.bool A.by'.s)),.d (.v (.string A.by'.a)),.d (.v (.string A.by'.d)),.d (.v (.bool (A.bh))),.d (.v (.bool A.bt.s)),.d (.v (.string A.bt.a)),.d (.v (.string A.bt.d)),.d (.list (List.map lk A.links))]),.val (.one (.d (.list (List.map keyD t)))),.val (.one (.d (.list (List.map keyD u)))),int s,int e,int d] (bool true):=by
 have hA2:=hA
 have hLt:(List.map keyD t).length=t.length:=List.length_map ..
 have hLu:(List.map keyD u).length=u.length:=List.length_map ..
 refine Za Tryz.func8 rfl rfl Tryz.ntmps8 rfl (by kernel_rfl) rfl rfl ?_
 refine Zr9 ?_
 refine⟨fun e=>absurd e (by decide),fun _=> ?_⟩
 refine ZtV (A:=A) (t:=t) (by assumption) (Zbd ht) fun n29 hk_29_1=> ?_
 refine Zu1 (A:=A) (t:=t) (u:=u) hA2 ht hu fun n34 hk_34_1=> ?_
 refine ZwQ (A:=A) (t:=t) (s:=s) (e:=e) hA2 ht hs he fun n42 hk_42_1=> ?_
 refine Zsk (A:=A) (t:=t) (d:=d) hA2 ht hd fun n49 hk_49_1=> ?_
 refine⟨fun e1=> ?_,fun e1=> ?_⟩
 ·have f53:n29≠0:=Zv e1
  refine fork (fun e2=> ?_) (fun e2=> ?_)
  ·have f57:n34=n29:=ZP e2
   refine fork (fun e3=> ?_) (fun e3=> ?_)
   ·have f62:n42=n29:=ZP e3
    refine fork (fun e4=> ?_) (fun e4=> ?_)
    ·have f67:n49=n29:=ZP e4
     refine Eq.trans (b:=bool (IntKind.i64.wrap ((IntKind.i64.wrap (((List.map keyC (joinV A t u)).length:Int)+((List.map keyC (tcV A t s e)).length:Int)))+((List.map keyC (dlV A t d)).length:Int))==0)) ?_ rfl
     rw [Zcw (by rw [ZjO (show ¬ trackE A t=0 by rw [← hk_29_1];exact f53)];exact(show ¬ trackE A t=0 by rw [← hk_29_1];exact f53)),(Znx (show ¬ trackE A t=0 by rw [← hk_29_1];exact f53)).2,(ZpU (show ¬ trackE A t=0 by rw [← hk_29_1];exact f53)).2];rfl
    ·have f67:¬ (n49=n29):=ZQ e4
     exfalso
     exact f67 (by rw [hk_49_1,(ZpU (show ¬ trackE A t=0 by rw [← hk_29_1];exact f53)).1,hk_29_1])
   ·have f62:¬ (n42=n29):=ZQ e3
    exfalso
    exact f62 (by rw [hk_42_1,(Znx (show ¬ trackE A t=0 by rw [← hk_29_1];exact f53)).1,hk_29_1])
  ·have f57:¬ (n34=n29):=ZQ e2
   exfalso
   exact f57 (by rw [hk_34_1,ZjO (show ¬ trackE A t=0 by rw [← hk_29_1];exact f53),hk_29_1])
 ·have f53:¬ (n29≠0):=fun hh=>hh (Zw e1)
  have ht0:trackE A t=0:=by rw [← hk_29_1];exact Classical.not_not.1 f53
  refine Zsi (t:=t) ht (by have:=(Zcn ht0).2.1;omega) ?_
  refine⟨⟨(Zbk fun _=>rfl),(by show ((List.map keyD t).length+(List.map keyD u).length)*32≤_;(simp only [List.length_map];have:=len60 ht0;have:=hu.1;omega)),(by show ((List.map keyD t).length+(List.map keyD u).length)≤_;(simp only [List.length_map];have:=len60 ht0;have:=hu.1;omega))⟩,?_⟩
  refine ZtV (A:=A) (t:=u) (by assumption) (Zbd hu) fun n84 hk_84_1=> ?_
  refine⟨fun e5=> ?_,fun e5=> ?_⟩
  ·have f86:n84=0:=ZP e5
   have hu0:trackE A u=0:=by rw [← hk_84_1];exact f86
   refine Zu6 (A:=A) (t:=t) (u:=u) rfl (by assumption) ht hu (len60 ht0) (len60 hu0) fun n89 hk_89_1=> ?_
   refine fork (fun e6=> ?_) (fun e6=> ?_)
   ·have f93:n34≠n89:=Zv e6
    exfalso
    exact f93 (by rw [hk_34_1,Zfu ht0 hu0,hk_89_1])
   ·have f93:¬ (n34≠n89):=fun hh=>hh (Zw e6)
    refine fork (fun e7=> ?_) (fun e7=> ?_)
    ·have f96:n89=0:=ZP e7
     refine ZwH (t:=t) (u:=u) rfl ht hu (len60 ht0) (len60 hu0) ?_
     have hj0:joinE A t u=0:=by rw [Zfu ht0 hu0,← hk_89_1];exact f96
     refine Zfs (joinV A t u) rfl (by rw [Zhg hj0]) (Zpu ht hu ht0 hu0 hj0).1 (Zpu ht hu ht0 hu0 hj0).2 ?_
     refine fork (fun e8=> ?_) (fun e8=> ?_)
     ·have f107:n89≠0:=Zv e8
      exfalso
      exact f107 f96
     ·have f107:¬ (n89≠0):=fun hh=>hh (Zw e8)
      refine⟨fun e=>absurd e (by decide),fun _=> ?_⟩
      refine ZjL (A:=A) (t:=t) (s:=s) (e:=e) ht0 ht hs he fun n117 hk_117_1=> ?_
      refine fork (fun e9=> ?_) (fun e9=> ?_)
      ·have f123:n42≠n117:=Zv e9
       exfalso
       exact f123 (by rw [hk_42_1,(Zbf ht0).1,hk_117_1])
      ·have f123:¬ (n42≠n117):=fun hh=>hh (Zw e9)
       refine Zfs (tcV A t s e) rfl (by rw [(Zbf ht0).2]) (ZlN ht hs he ht0).1 (ZlN ht hs he ht0).2 ?_
       refine⟨fun e=>absurd e (by decide),fun _=> ?_⟩
       refine Zfr (A:=A) (t:=t) (d:=d) ht0 ht hd fun n132 hk_132_1=> ?_
       refine fork (fun e10=> ?_) (fun e10=> ?_)
       ·have f138:n49=n132:=ZP e10
        refine Zfs (dlV A t d) rfl (by rw [(ZbY ht0).2]) (ZmE ht ht0).1 (ZmE ht ht0).2 ?_
        refine Eq.trans (b:=bool true) ?_ rfl
        rfl
       ·have f138:¬ (n49=n132):=ZQ e10
        exfalso
        exact f138 (by rw [hk_49_1,(ZbY ht0).1,hk_132_1])
    ·have f96:¬ (n89=0):=ZQ e7
     refine fork (fun e11=> ?_) (fun e11=> ?_)
     ·have f107:n89≠0:=Zv e11
      refine⟨fun e12=> ?_,fun e12=> ?_⟩
      ·have f112:((List.map keyC (joinV A t u)).length:Int) >0:=of_decide_eq_true e12
       exfalso
       rw [Zcw (by rw [Zfu ht0 hu0,← hk_89_1];exact f96)] at f112;exact absurd f112 (by simp)
      ·have f112:¬ (((List.map keyC (joinV A t u)).length:Int) >0):=of_decide_eq_false e12
       refine ZjL (A:=A) (t:=t) (s:=s) (e:=e) ht0 ht hs he fun n117 hk_117_1=> ?_
       refine fork (fun e13=> ?_) (fun e13=> ?_)
       ·have f123:n42≠n117:=Zv e13
        exfalso
        exact f123 (by rw [hk_42_1,(Zbf ht0).1,hk_117_1])
       ·have f123:¬ (n42≠n117):=fun hh=>hh (Zw e13)
        refine Zfs (tcV A t s e) rfl (by rw [(Zbf ht0).2]) (ZlN ht hs he ht0).1 (ZlN ht hs he ht0).2 ?_
        refine⟨fun e=>absurd e (by decide),fun _=> ?_⟩
        refine Zfr (A:=A) (t:=t) (d:=d) ht0 ht hd fun n132 hk_132_1=> ?_
        refine fork (fun e14=> ?_) (fun e14=> ?_)
        ·have f138:n49=n132:=ZP e14
         refine Zfs (dlV A t d) rfl (by rw [(ZbY ht0).2]) (ZmE ht ht0).1 (ZmE ht ht0).2 ?_
         refine Eq.trans (b:=bool true) ?_ rfl
         rfl
        ·have f138:¬ (n49=n132):=ZQ e14
         exfalso
         exact f138 (by rw [hk_49_1,(ZbY ht0).1,hk_132_1])
     ·have f107:¬ (n89≠0):=fun hh=>hh (Zw e11)
      exfalso
      exact f96 (Classical.not_not.1 f107)
  ·have f86:¬ (n84=0):=ZQ e5
   have hu0:¬ trackE A u=0:=by rw [← hk_84_1];exact f86
   refine fork (fun e15=> ?_) (fun e15=> ?_)
   ·have f93:n34≠n84:=Zv e15
    exfalso
    exact f93 (by rw [hk_34_1,ZjN ht0 hu0,hk_84_1])
   ·have f93:¬ (n34≠n84):=fun hh=>hh (Zw e15)
    refine fork (fun e16=> ?_) (fun e16=> ?_)
    ·have f96:n84=0:=ZP e16
     exfalso
     exact f86 f96
    ·have f96:¬ (n84=0):=ZQ e16
     refine fork (fun e17=> ?_) (fun e17=> ?_)
     ·have f107:n84≠0:=Zv e17
      refine⟨fun e18=> ?_,fun e18=> ?_⟩
      ·have f112:((List.map keyC (joinV A t u)).length:Int) >0:=of_decide_eq_true e18
       exfalso
       rw [Zcw (by rw [ZjN ht0 hu0];exact hu0)] at f112;exact absurd f112 (by simp)
      ·have f112:¬ (((List.map keyC (joinV A t u)).length:Int) >0):=of_decide_eq_false e18
       refine ZjL (A:=A) (t:=t) (s:=s) (e:=e) ht0 ht hs he fun n117 hk_117_1=> ?_
       refine fork (fun e19=> ?_) (fun e19=> ?_)
       ·have f123:n42≠n117:=Zv e19
        exfalso
        exact f123 (by rw [hk_42_1,(Zbf ht0).1,hk_117_1])
       ·have f123:¬ (n42≠n117):=fun hh=>hh (Zw e19)
        refine Zfs (tcV A t s e) rfl (by rw [(Zbf ht0).2]) (ZlN ht hs he ht0).1 (ZlN ht hs he ht0).2 ?_
        refine⟨fun e=>absurd e (by decide),fun _=> ?_⟩
        refine Zfr (A:=A) (t:=t) (d:=d) ht0 ht hd fun n132 hk_132_1=> ?_
        refine fork (fun e20=> ?_) (fun e20=> ?_)
        ·have f138:n49=n132:=ZP e20
         refine Zfs (dlV A t d) rfl (by rw [(ZbY ht0).2]) (ZmE ht ht0).1 (ZmE ht ht0).2 ?_
         refine Eq.trans (b:=bool true) ?_ rfl
         rfl
        ·have f138:¬ (n49=n132):=ZQ e20
         exfalso
         exact f138 (by rw [hk_49_1,(ZbY ht0).1,hk_132_1])
     ·have f107:¬ (n84≠0):=fun hh=>hh (Zw e17)
      exfalso
      exact f96 (Classical.not_not.1 f107)
theorem trackEdits_walk (v0:Value) (A0:ArmV) (v1:Value) (l1:List (Int×List RV)) (v2:Value) (l2:List (Int×List RV)) (x3:Int) (x4:Int) (x5:Int) (N:Nat) (w:World) (_:1≤N) (hN:N≤1048576) (h0:DenAV w (fun b=>b< w.heap.size) noBs noMem v0 (arm A0)) (u0:A0.zs N) (h1:Den w (fun b=>b< w.heap.size) v1 (.list (l1.map keyD))) (u1:trackZ l1 N) (h2:Den w (fun b=>b< w.heap.size) v2 (.list (l2.map keyD))) (u2:trackZ l2 N) (u3:-9223372036854775808≤x3∧x3≤9223372036854775807) (u4:-9223372036854775808≤x4∧x4≤9223372036854775807) (u5:-9223372036854775808≤x5∧x5≤9223372036854775807) (hT:Tab w):
  Calls Tryz.prog 8 #[v0,v1,v2,.int .i64 x3,.int .i64 x4,.int .i64 x5] w fun e w'=>e= .returned (.bool true)∧Below w.heap.size w w':=
 Zar (I:=fun b=>b< w.heap.size) (ZeP A0 l1 l2 x3 x4 x5 (Zbj u0 (by omega)) (Ztf u1 hN) (Ztf u2 hN) u3 u4 u5) rfl hT (fun _ h=>h)
  (((((((ZdU (vs:= []) rfl).cons ((Zb8 (v:=int x5) rfl).2 rfl)).cons ((Zb8 (v:=int x4) rfl).2 rfl)).cons ((Zb8 (v:=int x3) rfl).2 rfl)).cons (show DenAV _ _ _ _ v2 (.val (.one (.d (.list _)))) from h2)).cons (show DenAV _ _ _ _ v1 (.val (.one (.d (.list _)))) from h1)).cons h0)
end
end Go.Proofs.YtpfemjpgbpnpkaaGreatDoor.eng
