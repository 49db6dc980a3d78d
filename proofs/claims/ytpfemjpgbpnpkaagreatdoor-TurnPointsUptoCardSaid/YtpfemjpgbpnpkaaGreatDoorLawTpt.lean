/- Contract of gantlaw1.TurnPoints: it returns true. Printed by wip/gp_tpt.py. -/
import Derived.Test.YtpfemjpgbpnpkaaGreatDoorTptA
namespace Go.Proofs.YtpfemjpgbpnpkaaGreatDoor.eng
open Go.RowKit num mem seg q held ratA ratB ratC ratD ratE vars ratF trq
section
variable {K : AV → Prop}
theorem Zrk {s:Rat}:(enc (rootN s.num.natAbs)).size≤qs s∧(enc (rootN s.den)).size≤qs s:=by
 have h:=rt_z (s:=s) (B:=qs s) (Nat.le_refl _)
 unfold RV.z rtV at h
 simp only at h
 exact⟨by omega,by omega⟩
set_option maxHeartbeats 4000000 in
set_option maxRecDepth 100000 in
theorem ZeO (x y:RV) (hx:x.z≤1048576) (hy:y.z≤1048576):Spec Tryz.prog Tab 4 [pair x y] (bool true):=by
 refine Za Tryz.func4 rfl rfl Tryz.ntmps4 rfl (by kernel_rfl) rfl rfl ?_
 refine ZjI   ?_
 refine⟨fun e=>absurd e (by decide),fun _=> ?_⟩
 refine⟨fun e1=> ?_,fun e1=> ?_⟩
 ·have f32:mx2 (mx2 (mx2 (x.a.size:Int) (x.d.size:Int)) (y.a.size:Int)) (y.d.size:Int) >500:=of_decide_eq_true e1
  refine Eq.trans (b:=bool true) ?_ rfl
  rfl
 ·have f32:¬ (mx2 (mx2 (mx2 (x.a.size:Int) (x.d.size:Int)) (y.a.size:Int)) (y.d.size:Int) >500):=of_decide_eq_false e1
  refine k_To (x:=x) (y:=y) hx hy fun n35 hk_35_1=> ?_
  refine ZwR (x:=x) (y:=y) (z:=x) (t:=y) (by omega) (by omega) (by omega) (by omega) (fun q40 hk_40_1 hk_40_2=> ?_)
  simp only [cn_z] at hk_40_2
  have hs:q40=sqQ x y:=hk_40_1
  have hrz:=rt_z (s:=q40) (B:=qs q40) (Nat.le_refl _)
  refine Zis q40.num.natAbs (Zd _) (by have:=qs_le.1 (Nat.le_refl (qs q40));exact Nat.le_trans (show (cn q40).a.size≤qs q40 from Nat.le_max_left _ _) (by omega)) ?_
  refine Zis q40.den (Zd _) (by have:=qs_le.1 (Nat.le_refl (qs q40));exact Nat.le_trans (show (cn q40).d.size≤qs q40 from Nat.le_max_right _ _) (by omega)) ?_
  refine⟨by kernel_rfl,?_⟩
  refine ZbC (x:=cn q40) (by simp only [cn_z];omega) fun n49 h49=> ?_
  simp only [cn_q] at h49
  refine⟨fun e2=> ?_,fun e2=> ?_⟩
  ·have f47:q40=0:=(ZN h49).1 (ZP e2)
   refine Zce (ZlM (by rw [Zug (by rw [← hs];exact f47)];decide)) ?_
   refine Eq.trans (b:=bool (n35==12)) ?_ rfl
   rw [hk_35_1,Zug (by rw [← hs];exact f47)];rfl
  ·have f47:¬ (q40=0):=fun hh=>ZQ e2 ((ZN h49).2 hh)
   refine Zk6 (rootN q40.num.natAbs) (rootN q40.num.natAbs) (Zd _) (Zd _) (by have:=(Zrk (s:=q40)).1;have:=(Zrk (s:=q40)).2;omega) ?_
   refine Zae (fun f64=> ?_) (fun f64=> ?_)
   ·refine Zk6 (rootN q40.den) (rootN q40.den) (Zd _) (Zd _) (by have:=(Zrk (s:=q40)).1;have:=(Zrk (s:=q40)).2;omega) ?_
    refine Zae (fun f71=> ?_) (fun f71=> ?_)
    ·refine⟨by kernel_rfl,?_⟩
     refine⟨fun e=>absurd e (by decide),fun _=> ?_⟩
     have hq:isSq q40:=⟨num.enc_inj f64,num.enc_inj f71⟩
     have hq2:isSq (sqQ x y):=by rw [← hs];exact hq
     have h0:¬ sqQ x y=0:=by rw [← hs];exact f47
     have hnz:(rtV q40).q≠0:=Zuq (by rw [hs];exact sq_pos x y) f47 hq
     refine Zhd (x:=x) (y:=rtV q40) (by omega) (by omega) hnz fun q87 h87 z87=> ?_
     simp only [cn_z] at z87
     refine Zhd (x:=y) (y:=rtV q40) (by omega) (by omega) hnz fun q94 h94 z94=> ?_
     simp only [cn_z] at z94
     refine fork (fun e4=> ?_) (fun e4=> ?_)
     ·have f99:n35=0:=ZP e4
      refine Zpm (x:=cn q87) (y:=cn q94) (by simp only [cn_z];omega) (by simp only [cn_z];omega) (fun b103 q103 hk_103_2 hk_103_3 hk_103_4=> ?_)
      try simp only [cn_q] at hk_103_2
      try simp only [cn_q] at hk_103_3
      simp only [cn_z] at hk_103_4
      refine Zmq (by rw [(ZqW (Zi1 h0 hq2)).1,← hs,← h87,hk_103_2]) (by rw [(ZqW (Zi1 h0 hq2)).2,← hs,← h87,← h94,hk_103_3]) ?_
      refine⟨by kernel_rfl,?_⟩
      refine Eq.trans (b:=bool true) ?_ rfl
      rfl
     ·have f99:¬ (n35=0):=ZQ e4
      exfalso
      exact f99 (by rw [hk_35_1];exact Zi1 h0 hq2)
    ·refine⟨by kernel_rfl,?_⟩
     refine⟨fun _=> ?_,fun e=>absurd e (by decide)⟩
     refine Zce (ZlM (by first|exact(by rw [ZhE (by rw [← hs];exact f47) (fun hq=>f64 (congrArg enc (by rw [← hs] at hq;exact hq.1)))];decide)|exact(by rw [ZhE (by rw [← hs];exact f47) (fun hq=>f71 (congrArg enc (by rw [← hs] at hq;exact hq.2)))];decide))) ?_
     refine Eq.trans (b:=bool (n35==3)) ?_ rfl
     rw [hk_35_1,ZhE (by rw [← hs];exact f47) (fun hq=>f71 (congrArg enc (by rw [← hs] at hq;exact hq.2)))];rfl
   ·refine⟨by kernel_rfl,?_⟩
    refine⟨fun _=> ?_,fun e=>absurd e (by decide)⟩
    refine Zce (ZlM (by first|exact(by rw [ZhE (by rw [← hs];exact f47) (fun hq=>f64 (congrArg enc (by rw [← hs] at hq;exact hq.1)))];decide)|exact(by rw [ZhE (by rw [← hs];exact f47) (fun hq=>f71 (congrArg enc (by rw [← hs] at hq;exact hq.2)))];decide))) ?_
    refine Eq.trans (b:=bool (n35==3)) ?_ rfl
    rw [hk_35_1,ZhE (by rw [← hs];exact f47) (fun hq=>f64 (congrArg enc (by rw [← hs] at hq;exact hq.1)))];rfl
theorem turnPoints_walk (s00:Bool) (a00 d00:ByteArray) (s01:Bool) (a01 d01:ByteArray) (N:Nat) (w:World) (_:1≤N) (hN:N≤1048576) (b00:a00.size≤N) (b01:d00.size≤N) (b02:a01.size≤N) (b03:d01.size≤N) (hT:Tab w):
  Calls Tryz.prog 4 #[.agg #[.bool s00,.string a00,.string d00,.bool s01,.string a01,.string d01]] w fun e w'=>e= .returned (.bool true)∧Below w.heap.size w w':=
 Zar (I:=fun b=>b< w.heap.size) (ZeO ⟨s00,a00,d00⟩ ⟨s01,a01,d01⟩ (by unfold RV.z;simp only;omega) (by unfold RV.z;simp only;omega)) rfl hT (fun _ h=>h)
  ((ZdU (vs:= []) rfl).cons ((Zb8 (v:=pair ⟨s00,a00,d00⟩ ⟨s01,a01,d01⟩) rfl).2 rfl))
end
end Go.Proofs.YtpfemjpgbpnpkaaGreatDoor.eng
