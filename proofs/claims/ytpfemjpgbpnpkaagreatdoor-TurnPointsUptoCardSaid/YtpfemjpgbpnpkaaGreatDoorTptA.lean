/- Contracts of turn.To and gantlaw1.TurnPoints. Printed by wip/gp_tpt.py. -/
import Derived.Test.YtpfemjpgbpnpkaaGreatDoorTpt0
import Derived.Test.YtpfemjpgbpnpkaaGreatDoorEngQ6
import Derived.Test.YtpfemjpgbpnpkaaGreatDoorGrpT
import Derived.Test.YtpfemjpgbpnpkaaGreatDoorGrpP
namespace Go.Proofs.YtpfemjpgbpnpkaaGreatDoor.eng
open Go.RowKit num mem seg q held ratA ratB ratC ratD ratE vars ratF trq
section
variable {K : AV → Prop}
theorem Zpj (n:Nat) {a:ByteArray} (ha:nv a=n) (za:a.size≤1099511627776) (k:K (nst (rootN n))):Ask 129 [str a] K:=by
 subst ha;exact use (Zqy a za) rfl k
theorem rt_z {s:Rat} {B:Nat} (h:qs s≤B):(rtV s).z≤B:=by
 have h1:=qs_le.1 h
 unfold RV.z rtV
 simp only
 have r:∀ n,n< 256 ^ B→(enc (rootN n)).size≤B:=fun n hn=>by
  have hr:=ZkI n
  have hle:rootN n≤n:=by
   have:=hr.1
   rcases Nat.eq_zero_or_pos (rootN n) with e|e
   ·omega
   ·exact Nat.le_trans (Nat.le_mul_of_pos_right _ e) this
  exact Zj.2 (Nat.lt_of_le_of_lt hle hn)
 have a:=r _ h1.1
 have b:=r _ h1.2
 omega
set_option maxHeartbeats 4000000 in
set_option maxRecDepth 100000 in
theorem ZvF (x y:RV) (hx:x.z≤1048576) (hy:y.z≤1048576):Spec Tryz.prog Tab 33 [pair x y] (.tup [.agg [.d (.v (.bool (toH x y))),.d (.v (.bool (toT x y).s)),.d (.v (.string (toT x y).a)),.d (.v (.string (toT x y).d))],.one (.d (.v (.int .i64 (toE (sqQ x y)))))]):=by
 refine Za Tryz.func33 rfl rfl Tryz.ntmps33 rfl (by kernel_rfl) rfl rfl ?_
 refine Zo9 (x:=x) (by omega) fun q14 h14 z14=> ?_
 simp only [cn_z] at z14
 refine Zo9 (x:=y) (by omega) fun q19 h19 z19=> ?_
 simp only [cn_z] at z19
 refine⟨by kernel_rfl,?_⟩
 refine Zbb (x:=cn q14) (y:=cn q14) (by simp only [cn_z];omega) (by simp only [cn_z];omega) fun q22 h22 z22=> ?_
 simp only [cn_z] at z22
 simp only [cn_q] at h22
 refine Zbb (x:=cn q19) (y:=cn q19) (by simp only [cn_z];omega) (by simp only [cn_z];omega) fun q25 h25 z25=> ?_
 simp only [cn_z] at z25
 simp only [cn_q] at h25
 refine ZcC (x:=cn q22) (y:=cn q25) (by simp only [cn_z];omega) (by simp only [cn_z];omega) fun q26 h26 z26=> ?_
 simp only [cn_z] at z26
 simp only [cn_q] at h26
 have hs:q26=sqQ x y:=by rw [h26,h22,h25,h14,h19];rfl
 have hrz:=rt_z (s:=q26) (B:=qs q26) (Nat.le_refl _)
 refine⟨by kernel_rfl,?_⟩
 refine ZbC (x:=cn q26) (by simp only [cn_z];omega) fun n28 h28=> ?_
 simp only [cn_q] at h28
 refine⟨fun e1=> ?_,fun e1=> ?_⟩
 ·have f29:q26=0:=(ZN h28).1 (ZP e1)
  refine Eq.trans (b:= .tup [.agg [.d (.v (.bool false)),.d (.v (.bool z0.s)),.d (.v (.string z0.a)),.d (.v (.string z0.d))],.one (.d (.v (.int .i64 (12))))]) ?_ rfl
  have hE:toE (sqQ x y)=12:=Zug (by rw [← hs];exact f29)
  have hno:=ZlM (x:=x) (y:=y) (by rw [hE];decide)
  rw [hno.1,hno.2,hE]
  all_goals rfl
 ·have f29:¬ (q26=0):=fun hh=>ZQ e1 ((ZN h28).2 hh)
  refine Zpj q26.num.natAbs (Zd _) (by have:=qs_le.1 (Nat.le_refl (qs q26));exact Nat.le_trans (show (cn q26).a.size≤qs q26 from Nat.le_max_left _ _) (by omega)) ?_
  refine Zpj q26.den (Zd _) (by have:=qs_le.1 (Nat.le_refl (qs q26));exact Nat.le_trans (show (cn q26).d.size≤qs q26 from Nat.le_max_right _ _) (by omega)) ?_
  refine⟨by kernel_rfl,?_⟩
  refine Zse (x:=rtV q26) (by omega) (fun f39=> ?_) (fun f39=> ?_)
  ·refine Zbb (x:=rtV q26) (y:=rtV q26) (by omega) (by omega) fun q44 h44 z44=> ?_
   simp only [cn_z] at z44
   refine Zir (x:=cn q44) (y:=cn q26) (by simp only [cn_z];omega) (by simp only [cn_z];omega) fun n46 h46=> ?_
   simp only [cn_q] at h46
   refine⟨by kernel_rfl,?_⟩
   refine⟨fun e2=> ?_,fun e2=> ?_⟩
   ·have f48:¬ q44=q26:=fun hh=>Zv e2 ((ZsL h46).2 hh)
    refine Eq.trans (b:= .tup [.agg [.d (.v (.bool false)),.d (.v (.bool z0.s)),.d (.v (.string z0.a)),.d (.v (.string z0.d))],.one (.d (.v (.int .i64 (3))))]) ?_ rfl
    have h0:¬ sqQ x y=0:=by rw [← hs];exact f29
    have hE:toE (sqQ x y)=3:=ZhE h0 (fun hq=>f48 (by rw [h44,Ztp (by rw [hs];exact sq_pos x y) (by rw [hs];exact hq)]))
    have hno:=ZlM (x:=x) (y:=y) (by rw [hE];decide)
    rw [hno.1,hno.2,hE]
    all_goals rfl
   ·have f48:¬ (¬ q44=q26):=fun hh=>hh ((ZsL h46).1 (Zw e2))
    refine ZcC (x:=rtV q26) (y:=cn q14) (by omega) (by simp only [cn_z];omega) fun q54 h54 z54=> ?_
    simp only [cn_z] at z54
    simp only [cn_q] at h54
    refine Zfp (x:=cn q19) (y:=cn q54) (by simp only [cn_z];omega) (by simp only [cn_z];omega) (fun g55 q55 h55 z55=> ?_) (fun g55=> ?_)
    ·simp only [cn_z] at z55
     try simp only [cn_q] at g55 h55
     refine⟨by kernel_rfl,?_⟩
     refine⟨fun e=>absurd e (by decide),fun _=> ?_⟩
     refine Zip (x:=cn q55) (by simp only [cn_z];omega) (fun q62 hk_62_1 hk_62_2=> ?_)
     try simp only [cn_q] at hk_62_1
     simp only [cn_z] at hk_62_2
     refine Eq.trans (b:= .tup [.agg [.d (.v (.bool (false))),.d (.v (.bool (cn q62).s)),.d (.v (.string (cn q62).a)),.d (.v (.string (cn q62).d))],.one (.d (.v (.int .i64 (0))))]) ?_ rfl
     have h0:¬ sqQ x y=0:=by rw [← hs];exact f29
     have hq:isSq (sqQ x y):=by rw [← hs];exact Zv8 f39 (by rw [← h44];exact Classical.not_not.1 f48)
     have hh:=Zns h0 hq (by rw [← hs,← h14,← h54];exact g55)
     rw [hh.1,hh.2,Zi1 h0 hq,← hs,← h14,← h19,← h54,← h55,← hk_62_1]
     all_goals rfl
    ·try simp only [cn_q] at g55
     refine⟨by kernel_rfl,?_⟩
     refine⟨fun _=> ?_,fun e=>absurd e (by decide)⟩
     refine Zhb   (fun q60 hk_60_1 hk_60_2=> ?_)
     simp only [cn_z] at hk_60_2
     refine Eq.trans (b:= .tup [.agg [.d (.v (.bool (true))),.d (.v (.bool (cn q60).s)),.d (.v (.string (cn q60).a)),.d (.v (.string (cn q60).d))],.one (.d (.v (.int .i64 (0))))]) ?_ rfl
     have h0:¬ sqQ x y=0:=by rw [← hs];exact f29
     have hq:isSq (sqQ x y):=by rw [← hs];exact Zv8 f39 (by rw [← h44];exact Classical.not_not.1 f48)
     have hh:=Znr h0 hq (by rw [← hs,← h14,← h54];exact Classical.not_not.1 g55)
     rw [hh.1,hh.2,Zi1 h0 hq,hk_60_1]
     all_goals rfl
  ·refine⟨by kernel_rfl,?_⟩
   refine⟨fun _=> ?_,fun e=>absurd e (by decide)⟩
   refine Eq.trans (b:= .tup [.agg [.d (.v (.bool false)),.d (.v (.bool z0.s)),.d (.v (.string z0.a)),.d (.v (.string z0.d))],.one (.d (.v (.int .i64 (3))))]) ?_ rfl
   have h0:¬ sqQ x y=0:=by rw [← hs];exact f29
   have hE:toE (sqQ x y)=3:=ZhE h0 (fun hq=>f39 (Zn1 (by rw [hs];exact hq)))
   have hno:=ZlM (x:=x) (y:=y) (by rw [hE];decide)
   rw [hno.1,hno.2,hE]
   all_goals rfl
theorem k_To {x y:RV} (hx:x.z≤1048576) (hy:y.z≤1048576) (k:∀ n,n=toE (sqQ x y)→K (.tup [.agg [.d (.v (.bool (toH x y))),.d (.v (.bool (toT x y).s)),.d (.v (.string (toT x y).a)),.d (.v (.string (toT x y).d))],.one (.d (.v (.int .i64 n)))])):Ask 33 [pair x y] K:=use (ZvF x y hx hy) rfl (k _ rfl)
end
end Go.Proofs.YtpfemjpgbpnpkaaGreatDoor.eng
