/- Contract of gantlaw3.RoamValues: it returns true. Printed by wip/gp_roam.py. -/
import Derived.Test.YtpfemjpgbpnpkaaGreatDoorCRoaR
import Derived.Test.YtpfemjpgbpnpkaaGreatDoorCOpenI
namespace Go.Proofs.YtpfemjpgbpnpkaaGreatDoor.eng
open Go.RowKit num mem seg q held ratA ratB ratC ratD ratE vars ratF argopen trq
section
variable {K : AV → Prop}
theorem re32:rvE (sampA [3,2]) 4 [1,4]=0:=
 (Zel (ZmC (ZcK (by decide) (by decide) (by decide)) (by decide))).trans (ZfS rfl (by rintro⟨k,hk,hb⟩;simp only [List.mem_cons,List.not_mem_nil,or_false] at hk;omega))
theorem sv32:rvV (sampA [3,2]) 4 [1,4]=castL [-1,2]:=by
 have l0:(lkAt (sampA [3,2]) 0).low.q=m2Q:=show (cn m2Q).q=m2Q from cn_q _
 have l1:(lkAt (sampA [3,2]) 1).low.q=m2Q:=show (cn m2Q).q=m2Q from cn_q _
 have u0:(lkAt (sampA [3,2]) 0).high.q=n2Q:=show (cn n2Q).q=n2Q from cn_q _
 have u1:(lkAt (sampA [3,2]) 1).high.q=n2Q:=show (cn n2Q).q=n2Q from cn_q _
 rw [ZdO re32]
 show [vlQ _ _ _ 0,vlQ _ _ _ 1]=_
 unfold vlQ
 rw [l0,l1,u0,u1]
 decide+kernel
theorem Zgi {α β:Type} {f:α→β} {l:List α} (h:((List.map f l).length:Int) >0) (g:l= []):False:=by rw [g] at h;simp at h
set_option maxHeartbeats 8000000 in
set_option maxRecDepth 100000 in
theorem Zc1 (A:ArmV) (s:Int) (L:List Int) (Q:List RV) (hA:A.ok) (hsr:-9223372036854775808≤s∧s≤9223372036854775807) (hL:L.length≤1048576) (hQ:∀ x,x∈Q→x.z≤1048576) (hQn:Q.length≤1048576):Spec Tryz.prog Tab 6 [.val (.agg [.d (.v (.string A.name)),.d (.v (.bool A.bx.s)),.d (.v (.string A.bx.a)),.d (.v (.string A.bx.d)),.d (.v (.bool A.by'.s)),.d (.v (.string A.by'.a)),.d (.v (.string A.by'.d)),.d (.v (.bool (A.bh))),.d (.v (.bool A.bt.s)),.d (.v (.string A.bt.a)),.d (.v (.string A.bt.d)),.d (.list (List.map lk A.links))]),int s,.val (.one (.d (.list (List.map intD L)))),.val (.one (.d (.list (List.map rd Q))))] (bool true):=by
 have hA2:=hA
 have z6:=hA.2.2.2.2.2
 have hLk:(List.map lk A.links).length=A.links.length:=List.length_map ..
 have hLl:(List.map intD L).length=L.length:=List.length_map ..
 have hLq:(List.map rd Q).length=Q.length:=List.length_map ..
 have hQ6:∀ x,x∈Q→x.z≤67108864:=fun x hx=>Nat.le_trans (hQ x hx) (by decide)
 have o32:(sampA [3,2]).ok:=ZcN (Zg0 (by decide) (by decide)) (by decide)
 have a32:armE (sampA [3,2])=0:=ZcK (by decide) (by decide) (by decide)
 refine Zb Tryz.func6 rfl rfl Tryz.ntmps6 rfl (by kernel_rfl) rfl rfl ?_
 refine Zhf [3,2] rfl (by decide) (by decide) ?_
 refine Zfr (A:=(sampA [3,2])) (s:=4) [1,4] rfl (by assumption) (by decide) fun n22 hk_22_1=> ?_
 refine fork (fun e1=> ?_) (fun e1=> ?_)
 ·have f27:n22≠0:=Zy e1
  exfalso
  exact f27 (by rw [hk_22_1];exact re32)
 ·have f27:¬ (n22≠0):=fun hh=>hh (Zz e1)
  refine ZmP [-1,2] rfl (by decide) (by decide) ?_
  refine ZjR sv32 (by rw [sv32];decide) ?_
  refine⟨fun e=>absurd e (by decide),fun _=> ?_⟩
  refine Zcn (A:=A) (by assumption) fun n35 hk_35_1=> ?_
  refine fork (fun e2=> ?_) (fun e2=> ?_)
  ·have f38:n35=0:=ZbN e2
   refine fork (fun e3=> ?_) (fun e3=> ?_)
   ·have f41:s< 1:=of_decide_eq_true e3
    refine⟨fun _=> ?_,fun e=>absurd e (by decide)⟩
    refine Zfr (A:=A) (s:=s) L rfl (by assumption) hL fun n50 hk_50_1=> ?_
    refine Zez (A:=A) (s:=s) (Q:=Q) (by assumption) (by assumption) fun n57 hk_57_1=> ?_
    refine⟨fun _=> ?_,fun e=>absurd e (by decide)⟩
    refine fork (fun e4=> ?_) (fun e4=> ?_)
    ·have f65:n50=1:=ZbN e4
     refine fork (fun e5=> ?_) (fun e5=> ?_)
     ·have f70:n57=1:=ZbN e5
      refine Eq.trans (b:=bool (IntKind.i64.wrap (((List.map rdc (rvV A s L)).length:Int)+((List.map intD (rnV A s Q)).length:Int))==0)) ?_ rfl
      rw [Zcx (by rw [← hk_50_1];omega),Zc2 (by rw [← hk_57_1];omega)]
      all_goals rfl
     ·have f70:¬ (n57=1):=ZbO e5
      exfalso
      exact f70 (hk_57_1.trans (Zk2 (Zf5 (hk_35_1.symm.trans f38) (by omega)) (by decide)))
    ·have f65:¬ (n50=1):=ZbO e4
     exfalso
     exact f65 (hk_50_1.trans (ZkV (Zf5 (hk_35_1.symm.trans f38) (by omega)) (by decide)))
   ·have f41:¬ (s< 1):=of_decide_eq_false e3
    refine⟨fun e6=> ?_,fun e6=> ?_⟩
    ·have f45:s >12:=of_decide_eq_true e6
     refine Zfr (A:=A) (s:=s) L rfl (by assumption) hL fun n50 hk_50_1=> ?_
     refine Zez (A:=A) (s:=s) (Q:=Q) (by assumption) (by assumption) fun n57 hk_57_1=> ?_
     refine⟨fun _=> ?_,fun e=>absurd e (by decide)⟩
     refine fork (fun e7=> ?_) (fun e7=> ?_)
     ·have f65:n50=1:=ZbN e7
      refine fork (fun e8=> ?_) (fun e8=> ?_)
      ·have f70:n57=1:=ZbN e8
       refine Eq.trans (b:=bool (IntKind.i64.wrap (((List.map rdc (rvV A s L)).length:Int)+((List.map intD (rnV A s Q)).length:Int))==0)) ?_ rfl
       rw [Zcx (by rw [← hk_50_1];omega),Zc2 (by rw [← hk_57_1];omega)]
       all_goals rfl
      ·have f70:¬ (n57=1):=ZbO e8
       exfalso
       exact f70 (hk_57_1.trans (Zk2 (Zf5 (hk_35_1.symm.trans f38) (by omega)) (by decide)))
     ·have f65:¬ (n50=1):=ZbO e7
      exfalso
      exact f65 (hk_50_1.trans (ZkV (Zf5 (hk_35_1.symm.trans f38) (by omega)) (by decide)))
    ·have f45:¬ (s >12):=of_decide_eq_false e6
     refine Zfr (A:=A) (s:=s) L rfl (by assumption) hL fun n50 hk_50_1=> ?_
     refine Zez (A:=A) (s:=s) (Q:=Q) (by assumption) (by assumption) fun n57 hk_57_1=> ?_
     refine⟨fun e9=> ?_,fun e9=> ?_⟩
     ·have f61:n35≠0:=Zy e9
      exfalso
      exact f61 f38
     ·have f61:¬ (n35≠0):=fun hh=>hh (Zz e9)
      have hA0:armE A=0:=by rw [← hk_35_1];exact f38
      have hs1:1≤s:=by omega
      have hs2:s≤12:=by omega
      have hrc:=ZmC hA0 ⟨hs1,hs2⟩
      have hn3:=(ZaI hA0).1
      refine ZmW (L:=L) (n:=((List.map lk A.links).length:Int)) (s:=s) hL fun n83 hk_83_1=> ?_
      rw [hLk] at hk_83_1
      refine ZjV (A:=A) (Q:=Q) (by assumption) hQ6 (by omega) fun n86 hk_86_1=> ?_
      refine⟨by kernel_rfl,?_⟩
      refine fork (fun e10=> ?_) (fun e10=> ?_)
      ·have f90:n50≠n83:=Zy e10
       exfalso
       exact f90 (by rw [hk_50_1,hk_83_1];exact Zel hrc)
      ·have f90:¬ (n50≠n83):=fun hh=>hh (Zz e10)
       refine fork (fun e11=> ?_) (fun e11=> ?_)
       ·have f95:n57≠n86:=Zy e11
        exfalso
        exact f95 (by rw [hk_57_1,hk_86_1];exact Zf4 hrc)
       ·have f95:¬ (n57≠n86):=fun hh=>hh (Zz e11)
        refine fork (fun e12=> ?_) (fun e12=> ?_)
        ·have f98:n83≠0:=Zy e12
         refine fork (fun e13=> ?_) (fun e13=> ?_)
         ·have f104:((List.map rdc (rvV A s L)).length:Int) >0:=of_decide_eq_true e13
          exfalso
          exact Zgi f104 (Zcx (fun h=>f98 (hk_83_1.trans ((Zel hrc).symm.trans h))))
         ·have f104:¬ (((List.map rdc (rvV A s L)).length:Int) >0):=of_decide_eq_false e13
          refine fork (fun e14=> ?_) (fun e14=> ?_)
          ·have f107:n86≠0:=Zy e14
           refine⟨fun e15=> ?_,fun e15=> ?_⟩
           ·have f112:((List.map intD (rnV A s Q)).length:Int) >0:=of_decide_eq_true e15
            exfalso
            exact Zgi f112 (Zc2 (fun h=>f107 (hk_86_1.trans ((Zf4 hrc).symm.trans h))))
           ·have f112:¬ (((List.map intD (rnV A s Q)).length:Int) >0):=of_decide_eq_false e15
            refine fork (fun e16=> ?_) (fun e16=> ?_)
            ·have f115:n83≠0:=Zy e16
             refine fork (fun e17=> ?_) (fun e17=> ?_)
             ·have f126:n86≠0:=Zy e17
              refine Eq.trans (b:=bool true) ?_ rfl
              rfl
             ·have f126:¬ (n86≠0):=fun hh=>hh (Zz e17)
              exfalso
              exact f126 f107
            ·have f115:¬ (n83≠0):=fun hh=>hh (Zz e16)
             exfalso
             exact f115 f98
          ·have f107:¬ (n86≠0):=fun hh=>hh (Zz e14)
           refine⟨fun e=>absurd e (by decide),fun _=> ?_⟩
           refine fork (fun e18=> ?_) (fun e18=> ?_)
           ·have f115:n83≠0:=Zy e18
            refine fork (fun e19=> ?_) (fun e19=> ?_)
            ·have f126:n86≠0:=Zy e19
             exfalso
             exact f107 f126
            ·have f126:¬ (n86≠0):=fun hh=>hh (Zz e19)
             have hf:fitsE A Q=0:=hk_86_1.symm.trans (Classical.not_not.1 f126)
             have hw0:rnE A s Q=0:=(Zf4 hrc).trans hf
             refine ZjU (A:=A) (s:=s) (Q:=Q) (by assumption) hf hs1 hs2 (by assumption) ?_
             refine Zmg (Ze5 hw0) (by rw [Ze5 hw0,Zew];omega) ?_
             refine Eq.trans (b:=bool true) ?_ rfl
             rfl
           ·have f115:¬ (n83≠0):=fun hh=>hh (Zz e18)
            exfalso
            exact f115 f98
        ·have f98:¬ (n83≠0):=fun hh=>hh (Zz e12)
         refine fork (fun e20=> ?_) (fun e20=> ?_)
         ·have f107:n86≠0:=Zy e20
          refine⟨fun e21=> ?_,fun e21=> ?_⟩
          ·have f112:((List.map intD (rnV A s Q)).length:Int) >0:=of_decide_eq_true e21
           exfalso
           exact Zgi f112 (Zc2 (fun h=>f107 (hk_86_1.trans ((Zf4 hrc).symm.trans h))))
          ·have f112:¬ (((List.map intD (rnV A s Q)).length:Int) >0):=of_decide_eq_false e21
           refine fork (fun e22=> ?_) (fun e22=> ?_)
           ·have f115:n83≠0:=Zy e22
            exfalso
            exact f98 f115
           ·have f115:¬ (n83≠0):=fun hh=>hh (Zz e22)
            have hsp:spotE L A.links.length s=0:=by rw [← hk_83_1];exact Classical.not_not.1 f115
            have hsk:=ZgU hsp
            have hv0:rvE A s L=0:=(Zel hrc).trans hsp
            refine Zmh (A:=A) (s:=s) (L:=L) (by assumption) hA0 hs1 hs2 (by have:=hsk.1;omega) hsk.2 ?_
            refine ZjR (ZdO hv0) (by rw [ZdO hv0,Zed];omega) ?_
            refine fork (fun e23=> ?_) (fun e23=> ?_)
            ·have f126:n86≠0:=Zy e23
             refine Eq.trans (b:=bool true) ?_ rfl
             rfl
            ·have f126:¬ (n86≠0):=fun hh=>hh (Zz e23)
             exfalso
             exact f126 f107
         ·have f107:¬ (n86≠0):=fun hh=>hh (Zz e20)
          refine⟨fun e=>absurd e (by decide),fun _=> ?_⟩
          refine fork (fun e24=> ?_) (fun e24=> ?_)
          ·have f115:n83≠0:=Zy e24
           exfalso
           exact f98 f115
          ·have f115:¬ (n83≠0):=fun hh=>hh (Zz e24)
           have hsp:spotE L A.links.length s=0:=by rw [← hk_83_1];exact Classical.not_not.1 f115
           have hsk:=ZgU hsp
           have hv0:rvE A s L=0:=(Zel hrc).trans hsp
           refine Zmh (A:=A) (s:=s) (L:=L) (by assumption) hA0 hs1 hs2 (by have:=hsk.1;omega) hsk.2 ?_
           refine ZjR (ZdO hv0) (by rw [ZdO hv0,Zed];omega) ?_
           refine fork (fun e25=> ?_) (fun e25=> ?_)
           ·have f126:n86≠0:=Zy e25
            exfalso
            exact f107 f126
           ·have f126:¬ (n86≠0):=fun hh=>hh (Zz e25)
            have hf:fitsE A Q=0:=hk_86_1.symm.trans (Classical.not_not.1 f126)
            have hw0:rnE A s Q=0:=(Zf4 hrc).trans hf
            refine ZjU (A:=A) (s:=s) (Q:=Q) (by assumption) hf hs1 hs2 (by assumption) ?_
            refine Zmg (Ze5 hw0) (by rw [Ze5 hw0,Zew];omega) ?_
            refine Eq.trans (b:=bool true) ?_ rfl
            rfl
  ·have f38:¬ (n35=0):=ZbO e2
   refine⟨fun e=>absurd e (by decide),fun _=> ?_⟩
   refine Zfr (A:=A) (s:=s) L rfl (by assumption) hL fun n50 hk_50_1=> ?_
   refine Zez (A:=A) (s:=s) (Q:=Q) (by assumption) (by assumption) fun n57 hk_57_1=> ?_
   refine⟨fun e26=> ?_,fun e26=> ?_⟩
   ·have f61:n35≠0:=Zy e26
    refine fork (fun e27=> ?_) (fun e27=> ?_)
    ·have f65:n50=n35:=ZbN e27
     refine fork (fun e28=> ?_) (fun e28=> ?_)
     ·have f70:n57=n35:=ZbN e28
      refine Eq.trans (b:=bool (IntKind.i64.wrap (((List.map rdc (rvV A s L)).length:Int)+((List.map intD (rnV A s Q)).length:Int))==0)) ?_ rfl
      rw [Zcx (by rw [← hk_50_1];omega),Zc2 (by rw [← hk_57_1];omega)]
      all_goals rfl
     ·have f70:¬ (n57=n35):=ZbO e28
      exfalso
      exact f70 (by rw [hk_57_1,hk_35_1];exact Zk2 (Zk6 (fun h=>f38 (hk_35_1.trans h))) (fun h=>f38 (hk_35_1.trans h)))
    ·have f65:¬ (n50=n35):=ZbO e27
     exfalso
     exact f65 (by rw [hk_50_1,hk_35_1];exact ZkV (Zk6 (fun h=>f38 (hk_35_1.trans h))) (fun h=>f38 (hk_35_1.trans h)))
   ·have f61:¬ (n35≠0):=fun hh=>hh (Zz e26)
    exfalso
    exact f61 f38
theorem roamValues_walk (v0:Value) (A0:ArmV) (x1:Int) (v2:Value) (l2:List Int) (v3:Value) (l3:List RV) (N:Nat) (w:World) (_:1≤N) (hN:N≤1048576) (h0:DenAV w (fun b=>b< w.heap.size) noBs noMem v0 (arm A0)) (u0:A0.zs N) (u1:-9223372036854775808≤x1∧x1≤9223372036854775807) (h2:Den w (fun b=>b< w.heap.size) v2 (.list (l2.map intD))) (u2:intsZ l2 N) (h3:Den w (fun b=>b< w.heap.size) v3 (.list (l3.map eng.rd))) (u3:ratsZ l3 N) (hT:Tab w):
  Calls Tryz.prog 6 #[v0,.int .i64 x1,v2,v3] w fun e w'=>e= .returned (.bool true)∧Below w.heap.size w w':=
 Zbu (I:=fun b=>b< w.heap.size) (Zc1 A0 x1 l2 l3 (ZcN u0 (by omega)) u1 (Nat.le_trans u2.1 (by omega)) (fun x hx=>Nat.le_trans (u3.2 x hx) (by omega)) (Nat.le_trans u3.1 (by omega))) rfl hT (fun _ h=>h)
  (((((Zf7 (vs:= []) rfl).cons (show DenAV _ _ _ _ v3 (.val (.one (.d (.list _)))) from h3)).cons (show DenAV _ _ _ _ v2 (.val (.one (.d (.list _)))) from h2)).cons ((Zc8 (v:=int x1) rfl).2 rfl)).cons h0)
end
end Go.Proofs.YtpfemjpgbpnpkaaGreatDoor.eng
