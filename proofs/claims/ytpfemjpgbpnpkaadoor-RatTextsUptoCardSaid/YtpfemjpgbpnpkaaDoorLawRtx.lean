/- Contract of gantlaw1.RatTexts: it returns true. Printed by wip/gp_rtxt.py. -/
import Derived.Test.YtpfemjpgbpnpkaaDoorRtxA
import Derived.Test.YtpfemjpgbpnpkaaDoorOpen
namespace Go.Proofs.YtpfemjpgbpnpkaaDoor.eng
open Go.RowKit num mem seg q held ratA ratB ratC ratD ratE vars ratF natC natD natI natJ natK dec argopen
section
variable {K : AV → Prop}
theorem ZiP:Spec Tryd.prog Tab 12 [] (bool true):=
 Zs (Zw Tryd.func12 rfl rfl) rfl rfl fun w hT=>Zd2 w hT
set_option maxHeartbeats 2000000 in
set_option maxRecDepth 100000 in
theorem Zdo (x:RV) (s:ByteArray) (hx:x.z≤1048576):Spec Tryd.prog Tab 4 [rat x,str s] (bool true):=by
 have hcn:(cn x.q).z≤4398046511110:=by rw [cn_z];have:=x.z1;omega
 have hcs:=ZfL hcn
 have hcs1:=hcs.1
 have hcs2:=hcs.2
 have hda:=ZbX (a:=(cn x.q).a) (by omega)
 have hdd:=ZbX (a:=(cn x.q).d) (by omega)
 refine Zap Tryd.func4 rfl rfl Tryd.ntmps4 rfl (by kernel_rfl) rfl rfl ?_
 refine use ZiP rfl ?_
 refine⟨fun e=>absurd e (by decide),fun _=> ?_⟩
 refine ZjH (x:=x) (by omega) fun r14 p14 hp14 hr14 _ _=> ?_
 subst hr14 hp14
 refine use (Zay (cn x.q).a (by omega)) rfl ?_
 refine⟨fun e1=> ?_,fun e1=> ?_⟩
 ·have f19:(cn x.q).s=true:=e1
  refine⟨_,⟨_,rfl,rfl,fun w=>strcat (by(try simp only [ByteArray.size_append]);have:=szm;have:=szs;omega) w⟩,?_⟩
  refine ZW (fun f24=> ?_) (fun f24=> ?_)
  ·refine⟨fun e=>absurd e (by decide),fun _=> ?_⟩
   refine use (ZaU s) rfl ?_
   refine use (Za1 s) rfl ?_
   refine Zdy (x:=x) (by omega) ?_
   refine Zu (fun _=> ?_) (fun hh=>absurd (by first|exact ZdI f19 f24|exact ZdJ f19 f24|exact ZdK f19 f24|exact ZdL f19 f24) hh)
   refine ZaC rfl ?_
   refine Eq.trans (b:=bool (frE s==frE s)) ?_ rfl
   rw [show (frE s==frE s)=true from beq_self_eq_true _]
   all_goals rfl
  ·refine⟨fun _=> ?_,fun e=>absurd e (by decide)⟩
   refine use (Zay (cn x.q).d (by omega)) rfl ?_
   refine⟨_,⟨_,rfl,rfl,fun w=>strcat (by(try simp only [ByteArray.size_append]);have:=szm;have:=szs;omega) w⟩,?_⟩
   refine⟨_,⟨_,rfl,rfl,fun w=>strcat (by(try simp only [ByteArray.size_append]);have:=szm;have:=szs;omega) w⟩,?_⟩
   refine use (ZaU s) rfl ?_
   refine use (Za1 s) rfl ?_
   refine Zdy (x:=x) (by omega) ?_
   refine Zu (fun _=> ?_) (fun hh=>absurd (by first|exact ZdI f19 f24|exact ZdJ f19 f24|exact ZdK f19 f24|exact ZdL f19 f24) hh)
   refine ZaC rfl ?_
   refine Eq.trans (b:=bool (frE s==frE s)) ?_ rfl
   rw [show (frE s==frE s)=true from beq_self_eq_true _]
   all_goals rfl
 ·have f19:¬ ((cn x.q).s=true):=fun hh=>Bool.false_ne_true (e1.symm.trans hh)
  refine ZW (fun f24=> ?_) (fun f24=> ?_)
  ·refine⟨fun e=>absurd e (by decide),fun _=> ?_⟩
   refine use (ZaU s) rfl ?_
   refine use (Za1 s) rfl ?_
   refine Zdy (x:=x) (by omega) ?_
   refine Zu (fun _=> ?_) (fun hh=>absurd (by first|exact ZdI f19 f24|exact ZdJ f19 f24|exact ZdK f19 f24|exact ZdL f19 f24) hh)
   refine ZaC rfl ?_
   refine Eq.trans (b:=bool (frE s==frE s)) ?_ rfl
   rw [show (frE s==frE s)=true from beq_self_eq_true _]
   all_goals rfl
  ·refine⟨fun _=> ?_,fun e=>absurd e (by decide)⟩
   refine use (Zay (cn x.q).d (by omega)) rfl ?_
   refine⟨_,⟨_,rfl,rfl,fun w=>strcat (by(try simp only [ByteArray.size_append]);have:=szm;have:=szs;omega) w⟩,?_⟩
   refine⟨_,⟨_,rfl,rfl,fun w=>strcat (by(try simp only [ByteArray.size_append]);have:=szm;have:=szs;omega) w⟩,?_⟩
   refine use (ZaU s) rfl ?_
   refine use (Za1 s) rfl ?_
   refine Zdy (x:=x) (by omega) ?_
   refine Zu (fun _=> ?_) (fun hh=>absurd (by first|exact ZdI f19 f24|exact ZdJ f19 f24|exact ZdK f19 f24|exact ZdL f19 f24) hh)
   refine ZaC rfl ?_
   refine Eq.trans (b:=bool (frE s==frE s)) ?_ rfl
   rw [show (frE s==frE s)=true from beq_self_eq_true _]
   all_goals rfl
theorem ratTexts_walk (s0:Bool) (a0 d0:ByteArray) (x1:ByteArray) (N:Nat) (w:World) (_:1≤N) (hN:N≤1048576) (_:a0.size≤N) (_:d0.size≤N) (_:x1.size≤N) (hT:Tab w):
  Calls Tryd.prog 4 #[.agg #[.bool s0,.string a0,.string d0],.string x1] w fun e w'=>e= .returned (.bool true)∧Below w.heap.size w w':=
 ZcH (I:=fun b=>b< w.heap.size) (Zdo ⟨s0,a0,d0⟩ x1 (by unfold RV.z;simp only;omega)) rfl hT (fun _ h=>h)
  (((ZgM (vs:= []) rfl).cons ((ZcW (v:=str x1) rfl).2 rfl)).cons ((ZcW (v:=rat ⟨s0,a0,d0⟩) rfl).2 rfl))
end
end Go.Proofs.YtpfemjpgbpnpkaaDoor.eng
