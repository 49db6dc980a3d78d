/- Contract of gantlaw3.ShortMeasures: it returns true. Printed by wip/gp_len.py. -/
import Derived.Test.YtpfemjpgbpnpkaaGreatDoorGrpG
import Derived.Test.YtpfemjpgbpnpkaaGreatDoorGrpI
namespace Go.Proofs.YtpfemjpgbpnpkaaGreatDoor.eng
open Go.RowKit num mem seg q held ratA ratB ratC ratD ratE vars ratF argopen trq
section
variable {K : AV → Prop}
def smpM:List (List RV):= [natRV [0,0],natRV [1,1],natRV [2,2]]
theorem Zv2:smpM.length≤1048576∧∀ q,q∈smpM→q.length≤1048576∧∀ x,x∈q→x.z≤1048576:=by
 refine⟨by decide,fun q hq=> ?_⟩
 have h:q=natRV [0,0]∨q=natRV [1,1]∨q=natRV [2,2]:=by simpa [smpM] using hq
 rcases h with rfl|rfl|rfl<;>exact⟨by show 2≤_;decide,fun x hx=>Nat.le_trans (Zff (by decide) x hx) (by decide)⟩
theorem Zti:chkE (sampA [3,2]) smpM=0:=Zqc (Zcm (ZbI (by decide) (by decide) (by decide)) (by decide) (by decide)) fun j hj=>by
 have hj:j< 3:=hj
 rcases (show j=0∨j=1∨j=2 by omega) with rfl|rfl|rfl<;>exact ZI.2 ⟨ZbI (by decide) (by decide) (by decide),rfl⟩
theorem Zv3:mesV (sampA [3,2]) smpM=cn ((4:Nat):Rat):=by
 rw [ZjD Zti]
 have q:∀ i k,i< 3→k< 2→qAt (wAt smpM i) k=((i:Nat):Rat):=by
  intro i k hi hk
  rcases (show i=0∨i=1∨i=2 by omega) with rfl|rfl|rfl<;>rcases (show k=0∨k=1 by omega) with rfl|rfl<;>exact cn_q _
 have c:∀ i k,i< 3→k< 2→chg smpM i k=absV (((i:Nat):Rat) - (((i - 1:Nat)):Rat)):=fun i k hi hk=>by
  unfold chg
  rw [q i k hi hk,q (i - 1) k (by omega) hk]
 have r:∀ i,i< 3→rowM smpM i 2=absV (((i:Nat):Rat) - (((i - 1:Nat)):Rat))+absV (((i:Nat):Rat) - (((i - 1:Nat)):Rat)):=fun i hi=>by
  show (0:Rat)+chg smpM i 0+chg smpM i 1=_
  rw [c i 0 hi (by decide),c i 1 hi (by decide),Rat.zero_add]
 have e:meaF smpM 2 3 0=((4:Nat):Rat):=by
  show (0:Rat)+rowM smpM 0 2+rowM smpM 1 2+rowM smpM 2 2+0=_
  rw [r 0 (by decide),r 1 (by decide),r 2 (by decide)]
  decide+kernel
 exact congrArg cn e
set_option maxHeartbeats 8000000 in
set_option maxRecDepth 100000 in
theorem Zdg (A:ArmV) (L:List (List RV)) (hA:A.ok) (hL:L.length≤1048576∧∀ q,q∈L→q.length≤1048576∧∀ x,x∈q→x.z≤1048576):Spec Tryz.prog Tab 5 [.val (.agg [.d (.v (.string A.name)),.d (.v (.bool A.bx.s)),.d (.v (.string A.bx.a)),.d (.v (.string A.bx.d)),.d (.v (.bool A.by'.s)),.d (.v (.string A.by'.a)),.d (.v (.string A.by'.d)),.d (.v (.bool (A.bh))),.d (.v (.bool A.bt.s)),.d (.v (.string A.bt.a)),.d (.v (.string A.bt.d)),.d (.list (List.map lk A.links))]),.val (.one (.d (.list (List.map rdrs L))))] (bool true):=by
 have hA2:=hA
 have hLL:(List.map rdrs L).length=L.length:=List.length_map ..
 have hL1:=hL.1
 have hL2:=hL.2
 have o32:(sampA [3,2]).ok:=Zbj (Zex (by decide) (by decide)) (by decide)
 have a32:armE (sampA [3,2])=0:=ZbI (by decide) (by decide) (by decide)
 refine Za Tryz.func5 rfl rfl Tryz.ntmps5 rfl (by kernel_rfl) rfl rfl ?_
 refine Zcd [0,0] rfl (by decide) (by decide) ?_
 refine Zcd [1,1] rfl (by decide) (by decide) ?_
 refine Zcd [2,2] rfl (by decide) (by decide) ?_
 refine ZeD [3,2] rfl (by decide) (by decide) ?_
 refine ZwU (A:=sampA [3,2]) (L:=smpM) o32 Zv2 fun n24 hk_24_1=> ?_
 obtain rfl:=hk_24_1.trans Zti
 refine use ((ZbN 4 (by decide))) rfl ?_
 refine ZbR Zv3 ?_
 refine⟨by kernel_rfl,?_⟩
 refine⟨fun e=>absurd e (by decide),fun _=> ?_⟩
 refine Zu5 (A:=A) (L:=L) hA2 hL fun n36 hk_36_1=> ?_
 refine ZwU (A:=A) (L:=L) hA2 hL fun n40 hk_40_1=> ?_
 refine ZxZ (A:=A) (L:=L) hA2 hL fun n46 hk_46_1=> ?_
 refine fork (fun e2=> ?_) (fun e2=> ?_)
 ·have f52:n40≠n36:=Zv e2
  exfalso
  exact f52 (by rw [hk_40_1,hk_36_1])
 ·have f52:¬ (n40≠n36):=fun hh=>hh (Zw e2)
  refine⟨fun e3=> ?_,fun e3=> ?_⟩
  ·have f56:n46≠n36:=Zv e3
   exfalso
   exact f56 (by rw [hk_46_1,hk_36_1])
  ·have f56:¬ (n46≠n36):=fun hh=>hh (Zw e3)
   refine⟨fun e4=> ?_,fun e4=> ?_⟩
   ·have f58:n36≠0:=Zv e4
    have hno:¬ chkE A L=0:=by rw [← hk_36_1];exact f58
    refine Za8 (ZoR hno) ?_
    refine Eq.trans (b:=bool (((List.map rdcs (plnV A L)).length:Int)==0)) ?_ rfl
    rw [plnV_no hno];rfl
   ·have f58:¬ (n36≠0):=fun hh=>hh (Zw e4)
    have hc:chkE A L=0:=by rw [← hk_36_1];exact Classical.not_not.1 f58
    have hb:=(Zd7 hc).1
    have hA0:=(ZaE hb).1
    have hn0:=(ZaE hb).2.1
    have hn60:=(ZaE hb).2.2
    have hn3:=(ZE hA0).1
    have hln:∀ (i:Nat) (x:List RV),L[i]? =some x→x.length=A.links.length:=fun i x hx=>by
     have h1:=(Zd7 hc).2 i (List.getElem?_eq_some_iff.1 hx).1
     rw [ZY hx] at h1
     have:=(ZI.1 h1).2
     omega
    refine use (ZqB L A.links.length hL hn3 (by omega) hln) rfl ?_
    have hmz:=ZoS hL2 hn3 (i:=L.length) (k:=0) (by omega) (by omega)
    refine ZfS (q:=(meaF L A.links.length L.length 0)) (by omega) ?_
    refine Za8 (by rw [ZjD hc]) ?_
    refine use (Zm0 L A.links.length hL hn3 (by omega) hln hn0) rfl ?_
    refine ZuX (plnV A L) rfl (by rw [plnV_ok hc]) (by rw [plnV_ok hc];simp only [rowQ,List.length_map,List.length_cons];have:=Zql L L.length;omega) (by rw [plnV_ok hc];exact Zv9 hL _) ?_
    refine⟨by kernel_rfl,?_⟩
    refine Eq.trans (b:=bool true) ?_ rfl
    rfl
theorem shortMeasures_walk (v0:Value) (A0:ArmV) (v1:Value) (l1:List (List RV)) (N:Nat) (w:World) (_:1≤N) (hN:N≤1048576) (h0:DenAV w (fun b=>b< w.heap.size) noBs noMem v0 (arm A0)) (u0:A0.zs N) (h1:Den w (fun b=>b< w.heap.size) v1 (.list (l1.map fun m=> [D.list (m.map eng.rd)]))) (u1:wayZ l1 N) (hT:Tab w):
  Calls Tryz.prog 5 #[v0,v1] w fun e w'=>e= .returned (.bool true)∧Below w.heap.size w w':=
 Zar (I:=fun b=>b< w.heap.size) (Zdg A0 l1 (Zbj u0 (by omega)) (Zua u1 hN)) rfl hT (fun _ h=>h)
  (((ZdU (vs:= []) rfl).cons (show DenAV _ _ _ _ v1 (.val (.one (.d (.list _)))) from h1)).cons h0)
end
end Go.Proofs.YtpfemjpgbpnpkaaGreatDoor.eng
