/- Joined by wip/bundle.py: XLawClr XLawMot. -/
import Derived.Test.YtpejadencgfnnaaGreatDoorGrpU
import Derived.Test.YtpejadencgfnnaaGreatDoorGrpX
import Derived.Test.YtpejadencgfnnaaGreatDoorOpenA
namespace Go.Proofs.YtpejadencgfnnaaGreatDoor.eng
open Go.RowKit num mem seg q held ratA ratB ratC ratD ratE vars ratF argopen trq
section
variable {K : AV → Prop}
def wallL:List (List (RV×RV)):= [[(cn n2Q,cn n0Q),(cn ((4:Nat):Rat),cn n0Q),(cn ((4:Nat):Rat),cn n1Q)]]
theorem Zly:wallL.length≤1048576∧∀ m,m∈wallL→m.length≤1048576∧∀ p,p∈m→p.1.z≤1048576∧p.2.z≤1048576:=by
 refine⟨by decide,fun m hm=> ?_⟩
 obtain rfl:=List.mem_singleton.1 hm
 refine⟨by show 3≤1048576;omega,fun p hp=> ?_⟩
 have h:p=(cn n2Q,cn n0Q)∨p=(cn ((4:Nat):Rat),cn n0Q)∨p=(cn ((4:Nat):Rat),cn n1Q):=by simpa using hp
 rcases h with rfl|rfl|rfl
 ·exact⟨(by decide+kernel:qs n2Q≤1048576),(by decide+kernel:qs n0Q≤1048576)⟩
 ·exact⟨(by decide+kernel:qs ((4:Nat):Rat)≤1048576),(by decide+kernel:qs n0Q≤1048576)⟩
 ·exact⟨(by decide+kernel:qs ((4:Nat):Rat)≤1048576),(by decide+kernel:qs n1Q≤1048576)⟩
theorem Zlx:convE 8 [(cn n2Q,cn n0Q),(cn ((4:Nat):Rat),cn n0Q),(cn ((4:Nat):Rat),cn n1Q)]=0:=by
 refine Z3.2 ⟨by show ¬ (8:Int)< ((3:Nat):Int);omega,by show ¬ (3:Nat)< 3;omega,?_⟩
 have p0:pts [(cn n2Q,cn n0Q),(cn ((4:Nat):Rat),cn n0Q),(cn ((4:Nat):Rat),cn n1Q)] 0=(n2Q,n0Q):=by rw [ZL (p:=(cn n2Q,cn n0Q)) rfl,cn_q,cn_q]
 have p1:pts [(cn n2Q,cn n0Q),(cn ((4:Nat):Rat),cn n0Q),(cn ((4:Nat):Rat),cn n1Q)] 1=(((4:Nat):Rat),n0Q):=by rw [ZL (p:=(cn ((4:Nat):Rat),cn n0Q)) rfl,cn_q,cn_q]
 have p2:pts [(cn n2Q,cn n0Q),(cn ((4:Nat):Rat),cn n0Q),(cn ((4:Nat):Rat),cn n1Q)] 2=(((4:Nat):Rat),n1Q):=by rw [ZL (p:=(cn ((4:Nat):Rat),cn n1Q)) rfl,cn_q,cn_q]
 intro i k hi h2 hk
 have hi:i< 3:=hi
 have hk:k< 3:=hk
 show 0< poly.ori (pts _ i) (pts _ ((i+1) % 3)) (pts _ ((i+k) % 3))
 obtain rfl:k=2:=by omega
 rcases (show (i=0∨i=1∨i=2) from by omega) with rfl|rfl|rfl
 ·show 0< poly.ori (pts _ 0) (pts _ 1) (pts _ 2)
  rw [p0,p1,p2];decide+kernel
 ·show 0< poly.ori (pts _ 1) (pts _ 2) (pts _ 0)
  rw [p0,p1,p2];decide+kernel
 ·show 0< poly.ori (pts _ 2) (pts _ 0) (pts _ 1)
  rw [p0,p1,p2];decide+kernel
theorem ZiT:wallsE wallL=0:=Zfg (by decide) fun j hj=>by
 have hj:j< 1:=hj
 obtain rfl:j=0:=by omega
 exact Zlx
theorem Zlz:ptsQ [(cn n2Q,cn n0Q),(cn ((4:Nat):Rat),cn n0Q),(cn ((4:Nat):Rat),cn n1Q)]= [(n2Q,n0Q),(((4:Nat):Rat),n0Q),(((4:Nat):Rat),n1Q)]:=by
 show [((cn n2Q).q,(cn n0Q).q),((cn ((4:Nat):Rat)).q,(cn n0Q).q),((cn ((4:Nat):Rat)).q,(cn n1Q).q)]=_
 rw [cn_q,cn_q,cn_q,cn_q]
def samQ (t:Rat):List (Rat×Rat):=let f:=turnF ⟨n0Q,n0Q,cosq false n0Q,sinq n0Q⟩ t; [putQ f n0Q m1Q,putQ f ((3:Nat):Rat) m1Q,putQ f ((3:Nat):Rat) n1Q,putQ f n0Q n1Q]
theorem Zry (n:Nat):plcL (sampA [3]) (natRV [n]) 1= [samQ (n:Rat)]:=by
 have hb:baseF (sampA [3])=⟨n0Q,n0Q,cosq false n0Q,sinq n0Q⟩:=by
  unfold baseF
  rw [show (sampA [3]).bx.q=n0Q from cn_q _,show (sampA [3]).by'.q=n0Q from cn_q _,show (sampA [3]).bt.q=n0Q from cn_q _];rfl
 have q0:qAt (natRV [n]) 0=(n:Rat):=(ZqM rfl).trans (cn_q _)
 show [plcQ (turnF (baseF (sampA [3])) (qAt (natRV [n]) 0)) (shpAt (sampA [3]) 0)]=_
 rw [hb,q0,show shpAt (sampA [3]) 0=sampS 3 from Zfq (l:=sampL 3) rfl]
 show [[putQ _ (cn n0Q).q (cn m1Q).q,putQ _ (cn ((3:Nat):Rat)).q (cn m1Q).q,putQ _ (cn ((3:Nat):Rat)).q (cn n1Q).q,putQ _ (cn n0Q).q (cn n1Q).q]]=_
 rw [cn_q,cn_q,cn_q,cn_q];rfl
theorem ZhK (n:Nat):hasE (sampA [3]) ((natRV [n]).length:Int)=0:=Zml (by decide) (by decide) (by decide) rfl
theorem ZqK (n:Nat):wlB (sampA [3]) (natRV [n]) wallL=!meetR (samQ (n:Rat)) [(n2Q,n0Q),(((4:Nat):Rat),n0Q),(((4:Nat):Rat),n1Q)]:=by
 rw [ZqD (ZhK n) ZiT,ZfC (ZhK n),Ze2]
 show clearB (plcL (sampA [3]) (natRV [n]) 1) wallL=_
 rw [Zry]
 show ((!meetR _ (ptsQ [(cn n2Q,cn n0Q),(cn ((4:Nat):Rat),cn n0Q),(cn ((4:Nat):Rat),cn n1Q)]))&&true&&true)=_
 rw [Zlz,Bool.and_true,Bool.and_true]
theorem ZsT (n:Nat):wlE (sampA [3]) (natRV [n]) wallL=0:=(Zrk (ZhK n)).trans ZiT
theorem Zt7:wlB (sampA [3]) (natRV [0]) wallL=false:=(ZqK 0).trans (by decide+kernel)
theorem Zt6:wlB (sampA [3]) (natRV [2]) wallL=true:=(ZqK 2).trans (by decide+kernel)
theorem Zjm {n:Nat} (h:n< 256):∀ x,x∈natRV [n]→x.z≤1048576:=fun x hx=>Nat.le_trans (ZrL (fun m hm=>by obtain rfl:=List.mem_singleton.1 hm;exact h) x hx) (by decide)
set_option maxHeartbeats 2000000 in
set_option maxRecDepth 100000 in
theorem Zir  :Spec Tryz.prog Tab 25 [] (bool true):=by
 have o3:(sampA [3]).ok:=Zjk (Zpa (by decide) (by decide)) (by decide)
 have a3:armE (sampA [3])=0:=Zi8 (by decide) (by decide) (by decide)
 refine Za Tryz.func25 rfl rfl Tryz.ntmps25 rfl (by kernel_rfl) rfl rfl ?_
 refine use (ZgD Ztb ZhZ) rfl ?_
 refine use (ZgD (ZbI 4 (by decide)) ZhZ) rfl ?_
 refine use (ZgD (ZbI 4 (by decide)) ZrK) rfl ?_
 refine Zjz [3] rfl (by decide) (by decide) ?_
 refine ZnB [0] rfl (by decide) (by decide) ?_
 refine ZnK (A:=sampA [3]) (Q:=natRV [0]) (W:=wallL) o3 (Zjm (by decide)) Zly fun b17 n17 hb17 hn17=> ?_
 obtain rfl:=hb17.trans Zt7
 obtain rfl:=hn17.trans (ZsT 0)
 refine Zjz [3] rfl (by decide) (by decide) ?_
 refine ZnB [2] rfl (by decide) (by decide) ?_
 refine ZnK (A:=sampA [3]) (Q:=natRV [2]) (W:=wallL) o3 (Zjm (by decide)) Zly fun b26 n26 hb26 hn26=> ?_
 obtain rfl:=hb26.trans Zt6
 obtain rfl:=hn26.trans (ZsT 2)
 refine Eq.trans (b:=bool true) ?_ rfl
 rfl
theorem ZpZ (k:K (bool true)):Ask 25 [] K:=use Zir rfl k
end
end Go.Proofs.YtpejadencgfnnaaGreatDoor.eng
namespace Go.Proofs.YtpejadencgfnnaaGreatDoor.eng
open Go.RowKit num mem seg q held ratA ratB ratC ratD ratE vars ratF argopen trq
section
variable {K : AV → Prop}
set_option maxHeartbeats 4000000 in
set_option maxRecDepth 100000 in
theorem Zc5 (A:ArmV) (l m:List RV) (Wl:List (List (RV×RV))) (o:Int) (hA:A.ok) (hl:l.length≤1048576∧∀ x,x∈l→x.z≤1048576) (hm:m.length≤1048576∧∀ x,x∈m→x.z≤1048576) (hW:Wl.length≤1048576∧∀ m,m∈Wl→m.length≤1048576∧∀ p,p∈m→p.1.z≤1048576∧p.2.z≤1048576) (ho:-9223372036854775808≤o∧o≤9223372036854775807):Spec Tryz.prog Tab 4 [.val (.agg [.d (.v (.string A.name)),.d (.v (.bool A.bx.s)),.d (.v (.string A.bx.a)),.d (.v (.string A.bx.d)),.d (.v (.bool A.by'.s)),.d (.v (.string A.by'.a)),.d (.v (.string A.by'.d)),.d (.v (.bool (A.bh))),.d (.v (.bool A.bt.s)),.d (.v (.string A.bt.a)),.d (.v (.string A.bt.d)),.d (.list (List.map lk A.links))]),.val (.one (.d (.list (List.map rd l)))),.val (.one (.d (.list (List.map rd m)))),.val (.one (.d (.list (List.map rdvs Wl)))),int o] (bool true):=by
 have hA2:=hA
 refine Za Tryz.func4 rfl rfl Tryz.ntmps4 rfl (by kernel_rfl) rfl rfl ?_
 refine Zsd (A:=A) (l:=l) (m:=m) (Wl:=Wl) (o:=o) hA2 hl hm hW ho fun n19 hk_19_1=> ?_
 refine Zqa (A:=A) (l:=l) (m:=m) (Wl:=Wl) (o:=o) hA2 hl hm hW ho fun b26 n26 hb26 hk_26_2=> ?_
 refine ZpZ ?_
 refine⟨fun e1=> ?_,fun e1=> ?_⟩
 ·have f35:n26≠n19:=Zaq e1
  exfalso
  exact f35 (by rw [hk_26_2,hk_19_1])
 ·have f35:¬ (n26≠n19):=fun hh=>hh (Zar e1)
  refine fork (fun e2=> ?_) (fun e2=> ?_)
  ·have f38:n19≠0:=Zaq e2
   refine fork (fun e3=> ?_) (fun e3=> ?_)
   ·have f42:¬ (b26=true):=fun hh=>ZaU hh (Zb0 e3)
    refine Eq.trans (b:=bool true) ?_ rfl
    rfl
   ·have f42:¬ (¬ (b26=true)):=fun hh=>hh ((Zb1 e3))
    exfalso
    exact f42 (fun hh=>by rw [hb26,ZfJ (by rw [← hk_19_1];exact f38)] at hh;exact absurd hh (by decide))
  ·have f38:¬ (n19≠0):=fun hh=>hh (Zar e2)
   refine fork (fun e4=> ?_) (fun e4=> ?_)
   ·have f45:n19=0:=Zc7 e4
    have hm0:motE A l m Wl o=0:=by rw [← hk_19_1];exact f45
    refine ZnN (A:=A) (l:=l) (m:=m) (Wl:=Wl) (o:=o) hA2 hl hm hW hm0 fun b52 hb52=> ?_
    refine Zdj (fun _=> ?_) (fun hh=>absurd (by rw [hb26,hb52,Zh1 hm0]) hh)
    refine Eq.trans (b:=bool true) ?_ rfl
    rfl
   ·have f45:¬ (n19=0):=Zc8 e4
    exfalso
    exact f38 f45
theorem clearMotions_walk (v0:Value) (A0:ArmV) (v1:Value) (l1:List RV) (v2:Value) (l2:List RV) (v3:Value) (l3:List (List (RV×RV))) (x4:Int) (N:Nat) (w:World) (_:1≤N) (hN:N≤1048576) (h0:DenAV w (fun b=>b< w.heap.size) noBs noMem v0 (arm A0)) (u0:A0.zs N) (h1:Den w (fun b=>b< w.heap.size) v1 (.list (l1.map eng.rd))) (u1:ratsZ l1 N) (h2:Den w (fun b=>b< w.heap.size) v2 (.list (l2.map eng.rd))) (u2:ratsZ l2 N) (h3:Den w (fun b=>b< w.heap.size) v3 (.list (l3.map fun m=> [D.list (m.map eng.rdv)]))) (u3:polysZ l3 N) (u4:-9223372036854775808≤x4∧x4≤9223372036854775807) (hT:Tab w):
  Calls Tryz.prog 4 #[v0,v1,v2,v3,.int .i64 x4] w fun e w'=>e= .returned (.bool true)∧Below w.heap.size w w':=
 Zet (I:=fun b=>b< w.heap.size) (Zc5 A0 l1 l2 l3 x4 (Zjk u0 (by omega)) ⟨Nat.le_trans u1.1 (by omega),fun x hx=>Nat.le_trans (u1.2 x hx) (by omega)⟩ ⟨Nat.le_trans u2.1 (by omega),fun x hx=>Nat.le_trans (u2.2 x hx) (by omega)⟩ (ZiP u3 hN) u4) rfl hT (fun _ h=>h)
  ((((((ZmN (vs:= []) rfl).cons ((ZgC (v:=int x4) rfl).2 rfl)).cons (show DenAV _ _ _ _ v3 (.val (.one (.d (.list _)))) from h3)).cons (show DenAV _ _ _ _ v2 (.val (.one (.d (.list _)))) from h2)).cons (show DenAV _ _ _ _ v1 (.val (.one (.d (.list _)))) from h1)).cons h0)
end
end Go.Proofs.YtpejadencgfnnaaGreatDoor.eng
