/- Contract of gantlaw3.TimingProfiles: it returns true. Printed by wip/gp_prof.py. -/
import Derived.Test.YtbgokkfhohodgaaDoorProfR
namespace Go.Proofs.YtbgokkfhohodgaaDoor.eng
open Go.RowKit num mem seg q held ratA ratB ratC ratD ratE vars ratF trq prf
section
variable {K : AV → Prop}
theorem ZjG {f s a:Rat} {t:Int} (hf:qs f≤2097152) (hS:qs s≤2097152) (hA:qs a≤2097152):(∀ q,q∈profL f s a t→qs q≤8589934592)∧(profL f s a t).length≤1099511627776:=by
 by_cases h:profE f s a t=0
 ·have hN:profN f s a t≤50:=by
   unfold profE at h
   split at h
   ·omega
   ·split at h
    ·omega
    ·unfold profN;omega
  rw [Zdr h]
  refine⟨fun q hq=> ?_,by rw [Zbo];omega⟩
  obtain⟨c,hc,rfl⟩:=List.mem_map.1 hq
  have h1:=ZcA s a _ hN c hc
  have h2:=Zfk hS hA hN
  have h3:=Zhb f (sumL (capsL s a (profN f s a t)))
  have h4:=Zd1 (f / sumL (capsL s a (profN f s a t))) c
  omega
 ·rw [Zac rfl h];exact⟨fun q hq=>by simp at hq,by simp⟩
theorem caps3:capsL 2 1 3= [1,2,1]:=by decide+kernel
theorem caps2:capsL 2 1 2= [1,1]:=by decide+kernel
theorem caps1:capsL 2 1 1= [1]:=by decide+kernel
theorem need4:needN 2 1 4=3:=by
 unfold needN
 have e1:enough 2 1 4 1=false:=by unfold enough;rw [caps1];decide+kernel
 have e2:enough 2 1 4 2=false:=by unfold enough;rw [caps2];decide+kernel
 have e3:enough 2 1 4 3=true:=by unfold enough;rw [caps3];decide+kernel
 show firstN (enough 2 1 4) (47+1+1+1) 1=3
 rw [firstN,e1]
 show firstN (enough 2 1 4) (47+1+1) 2=3
 rw [firstN,e2]
 show firstN (enough 2 1 4) (47+1) 3=3
 rw [firstN,e3];rfl
theorem Zjf:profE 4 2 1 0=0∧profL 4 2 1 0= [1,2,1]:=by
 have h:profE 4 2 1 0=0:=by
  unfold profE
  rw [if_neg (by decide+kernel),need4,if_neg (by omega)]
 refine⟨h,?_⟩
 rw [Zdr h]
 unfold chL profN
 rw [need4]
 show List.map _ (capsL 2 1 3)=_
 rw [show max 3 (0:Int).toNat=3 from rfl,caps3]
 decide+kernel
theorem ZjN (k:K (two (rats [1,2,1]) (int 0))):Ask 7 [rat (cn ((4:Nat):Rat)),rat (cn ((2:Nat):Rat)),rat (cn ((1:Nat):Rat)),int 0] K:=by
 have h4:(cn ((4:Nat):Rat)).z≤16777216:=by rw [cn_z];decide+kernel
 have h2:(cn ((2:Nat):Rat)).z≤16777216:=by rw [cn_z];decide+kernel
 have h1:(cn ((1:Nat):Rat)).z≤16777216:=by rw [cn_z];decide+kernel
 refine use (Zd2 _ _ _ 0 (by decide) (by decide) h4 h2 h1) rfl ?_
 rw [cn_q,cn_q,cn_q,show ((4:Nat):Rat)=4 from rfl,show ((2:Nat):Rat)=2 from rfl,show ((1:Nat):Rat)=1 from rfl,Zjf.1,Zjf.2]
 exact k
theorem Zi1 {l m:List Rat} (h:l=m) (hm:m.length≤1099511627776) (k:K (bool true)):Ask 9 [.val (.one (.d (.list (List.map rdc l)))),.val (.one (.d (.list (List.map rdc m))))] K:=by
 subst h
 exact ZfB l l rfl rfl hm hm fun b hb=>by rw [hb,decide_eq_true rfl];exact k
set_option maxHeartbeats 4000000 in
set_option maxRecDepth 100000 in
theorem Zbc (f s a:RV) (t:Int) (h1:-9223372036854775808≤t) (h2:t≤9223372036854775807) (hf:f.z≤1048576) (hS:s.z≤1048576) (hA:a.z≤1048576):Spec Tryd.prog Tab 3 [rat f,rat s,rat a,int t] (bool true):=by
 refine Zk Tryd.func3 rfl rfl Tryd.ntmps3 rfl (by kernel_rfl) rfl rfl ?_
 refine Zfz 4 rfl (by decide) ?_
 refine Zfz 2 rfl (by decide) ?_
 refine Zfz 1 rfl (by decide) ?_
 refine ZjN ?_
 refine use (Zhk [1,2,1] (by decide) (by decide)) rfl ?_
 refine ZfB [1,2,1] (natL [1,2,1]) rfl rfl (by decide) (by decide) fun b28 hb28=> ?_
 obtain rfl:b28=true:=by rw [hb28];decide+kernel
 refine⟨fun e=>absurd e (by decide),fun _=> ?_⟩
 refine use (Zd2 f s a t h1 h2 (by omega) (by omega) (by omega)) rfl ?_
 refine Ze0 (x:=f) (by omega) fun q41 h41 z41=> ?_
 refine Ze0 (x:=s) (by omega) fun q43 h43 z43=> ?_
 refine Ze0 (x:=a) (by omega) fun q45 h45 z45=> ?_
 refine use (Zgv q41 q43 q45 t h1 h2 (by omega) (by omega) (by omega)) rfl ?_
 have he:profE f.q s.q a.q t=profE q41 q43 q45 t:=by rw [h41,h43,h45]
 have hl:profL f.q s.q a.q t=profL q41 q43 q45 t:=by rw [h41,h43,h45]
 have hsm:=ZjG (f:=q41) (s:=q43) (a:=q45) (t:=t) (by omega) (by omega) (by omega)
 refine⟨by kernel_rfl,?_⟩
 refine⟨fun e1=> ?_,fun e1=> ?_⟩
 ·have f51:profE q41 q43 q45 t≠0:=ZkV e1
  refine fork (fun e2=> ?_) (fun e2=> ?_)
  ·have f55:profE f.q s.q a.q t=profE q41 q43 q45 t:=ZkD e2
   refine Eq.trans (b:=bool (((List.map rdc (profL f.q s.q a.q t)).length:Int)==0)) ?_ rfl
   rw [Zac (f:=f.q) (s:=s.q) (a:=a.q) (t:=t) rfl (by rw [he];exact f51)]
   all_goals rfl
  ·have f55:¬ (profE f.q s.q a.q t=profE q41 q43 q45 t):=ZkE e2
   exfalso
   exact f55 he
 ·have f51:¬ (profE q41 q43 q45 t≠0):=fun hh=>hh (ZkW e1)
  refine fork (fun e3=> ?_) (fun e3=> ?_)
  ·have f62:profE f.q s.q a.q t=0:=ZkD e3
   refine Zkp (profL q41 q43 q45 t) rfl hsm.1 hsm.2 ?_
   refine Zi1 hl hsm.2 ?_
   refine Eq.trans (b:=bool true) ?_ rfl
   rfl
  ·have f62:¬ (profE f.q s.q a.q t=0):=ZkE e3
   exfalso
   exact f62 (by rw [he];exact Classical.not_not.1 f51)
theorem timingProfiles_walk (s0:Bool) (a0 d0:ByteArray) (s1:Bool) (a1 d1:ByteArray) (s2:Bool) (a2 d2:ByteArray) (n:Int) (N:Nat) (w:World) (_:1≤N) (hN:N≤1048576)
  (k1:a0.size≤N) (k2:d0.size≤N) (k3:a1.size≤N) (k4:d1.size≤N) (k5:a2.size≤N) (k6:d2.size≤N) (hn:-9223372036854775808≤n∧n≤9223372036854775807) (hT:Tab w):
  Calls Tryd.prog 3 #[.agg #[.bool s0,.string a0,.string d0],.agg #[.bool s1,.string a1,.string d1],.agg #[.bool s2,.string a2,.string d2],.int .i64 n] w fun e w'=>e= .returned (.bool true)∧Below w.heap.size w w':=
 have zz:∀ (s:Bool) (a d:ByteArray),a.size≤N→d.size≤N→RV.z ⟨s,a,d⟩≤1048576:=fun s a d h1 h2=>by unfold RV.z;exact Nat.le_trans (Nat.max_le.2 ⟨h1,h2⟩) (by omega)
 ZdJ (Zbc ⟨s0,a0,d0⟩ ⟨s1,a1,d1⟩ ⟨s2,a2,d2⟩ n hn.1 hn.2 (zz _ _ _ k1 k2) (zz _ _ _ k3 k4) (zz _ _ _ k5 k6)) rfl hT (Zhd (vs:= [rat ⟨s0,a0,d0⟩,rat ⟨s1,a1,d1⟩,rat ⟨s2,a2,d2⟩,int n]) rfl)
end
end Go.Proofs.YtbgokkfhohodgaaDoor.eng
