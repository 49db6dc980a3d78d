/- Contract of gantlaw3.ShapePlaces: it returns true. Printed by wip/gp_spl.py. -/
import Derived.Test.YtpfemjpgbpnpkaaGreatDoorSplA
namespace Go.Proofs.YtpfemjpgbpnpkaaGreatDoor.eng
open Go.RowKit num mem seg q held ratA ratB ratC ratD ratE vars ratF argopen trq
section
variable {K : AV → Prop}
theorem Zrd:(plN (sampA [3]) (natRV [0])).flatten=samQ ((0:Nat):Rat):=by
 show (plcL (sampA [3]) (natRV [0]) 1).flatten=_
 rw [Zul];rfl
theorem Zum:arV (sampA [3]) (natRV [0])=(cn n0Q,cn m1Q,cn ((3:Nat):Rat),cn n1Q):=by
 rw [Zgx (ZnX 0)]
 unfold arB
 rw [Zrd]
 have h1:(foldB (ptB (ptQ (samQ ((0:Nat):Rat)) 0)) (samQ ((0:Nat):Rat))).xl=n0Q:=by decide+kernel
 have h2:(foldB (ptB (ptQ (samQ ((0:Nat):Rat)) 0)) (samQ ((0:Nat):Rat))).yl=m1Q:=by decide+kernel
 have h3:(foldB (ptB (ptQ (samQ ((0:Nat):Rat)) 0)) (samQ ((0:Nat):Rat))).xh=((3:Nat):Rat):=by decide+kernel
 have h4:(foldB (ptB (ptQ (samQ ((0:Nat):Rat)) 0)) (samQ ((0:Nat):Rat))).yh=n1Q:=by decide+kernel
 rw [h1,h2,h3,h4]
set_option maxHeartbeats 8000000 in
set_option maxRecDepth 100000 in
theorem Zep (A:ArmV) (Q:List RV) (b1 b2 b3 b4:RV) (hA:A.ok) (hQ:∀ x,x∈Q→x.z≤1048576):Spec Tryz.prog Tab 9 [.val (.agg [.d (.v (.string A.name)),.d (.v (.bool A.bx.s)),.d (.v (.string A.bx.a)),.d (.v (.string A.bx.d)),.d (.v (.bool A.by'.s)),.d (.v (.string A.by'.a)),.d (.v (.string A.by'.d)),.d (.v (.bool (A.bh))),.d (.v (.bool A.bt.s)),.d (.v (.string A.bt.a)),.d (.v (.string A.bt.d)),.d (.list (List.map lk A.links))]),.val (.one (.d (.list (List.map rd Q)))),box b1 b2 b3 b4] (bool true):=by
 have hA2:=hA
 have hLq:(List.map rd Q).length=Q.length:=List.length_map ..
 have o3:(sampA [3]).ok:=Zbj (Zex (by decide) (by decide)) (by decide)
 have a3:armE (sampA [3])=0:=ZbI (by decide) (by decide) (by decide)
 refine Za Tryz.func9 rfl rfl Tryz.ntmps9 rfl (by kernel_rfl) rfl rfl ?_
 refine ZeD [3] rfl (by decide) (by decide) ?_
 refine Zcd [0] rfl (by decide) (by decide) ?_
 refine Zlc (A:=(sampA [3])) (Q:=(natRV [0])) (by assumption) (ZrS (by decide)) fun n25 hk_25_1=> ?_
 refine fork (fun e1=> ?_) (fun e1=> ?_)
 ·have f30:n25≠0:=Zv e1
  exfalso
  exact f30 (hk_25_1.trans (ZnX 0))
 ·have f30:¬ (n25≠0):=fun hh=>hh (Zw e1)
  refine use (Zh2 Zfb Zoy) rfl ?_
  refine use (Zh2 (ZbN 3 (by decide)) ZuA) rfl ?_
  refine ZjK (by rw [Zum];exact⟨rfl,rfl,rfl,rfl⟩) ?_
  refine⟨by kernel_rfl,?_⟩
  refine⟨fun e=>absurd e (by decide),fun _=> ?_⟩
  refine Zmr (a:=b1) (b:=b2) (c:=b3) (d:=b4) ?_
  refine ZwI [(b1,b2),(b3,b2),(b3,b4),(b1,b4)] rfl rfl (by show 4≤1099511627776;decide) ?_
  refine⟨by kernel_rfl,?_⟩
  refine⟨fun e=>absurd e (by decide),fun _=> ?_⟩
  refine Zd0 (A:=A) (n:=((List.map rd Q).length:Int)) (by assumption) fun n73 hk_73_1=> ?_
  rw [List.length_map] at hk_73_1
  refine Zpq (A:=A) (Q:=Q) (by assumption) hQ fun n77 hk_77_1=> ?_
  refine Zlc (A:=A) (Q:=Q) (by assumption) hQ fun n83 hk_83_1=> ?_
  refine fork (fun e3=> ?_) (fun e3=> ?_)
  ·have f89:n77≠n73:=Zv e3
   exfalso
   exact f89 (hk_77_1.trans hk_73_1.symm)
  ·have f89:¬ (n77≠n73):=fun hh=>hh (Zw e3)
   refine⟨fun e4=> ?_,fun e4=> ?_⟩
   ·have f93:n83≠n73:=Zv e4
    exfalso
    exact f93 (hk_83_1.trans hk_73_1.symm)
   ·have f93:¬ (n83≠n73):=fun hh=>hh (Zw e4)
    refine⟨fun e5=> ?_,fun e5=> ?_⟩
    ·have f95:n73≠0:=Zv e5
     have hno:¬ hasE A (Q.length:Int)=0:=by rw [← hk_73_1];exact f95
     have hx1:(arV A Q).1=z0:=by rw [ZiM hno]
     have hx2:(arV A Q).2.1=z0:=by rw [ZiM hno]
     have hx3:(arV A Q).2.2.1=z0:=by rw [ZiM hno]
     have hx4:(arV A Q).2.2.2=z0:=by rw [ZiM hno]
     refine fork (fun e6=> ?_) (fun e6=> ?_)
     ·have f99:((List.map rdvs (plcV A Q)).length:Int)=0:=ZP e6
      refine Zfo ⟨hx1,hx2,hx3,hx4⟩ ?_
      refine Eq.trans (b:=bool true) ?_ rfl
      rfl
     ·have f99:¬ (((List.map rdvs (plcV A Q)).length:Int)=0):=ZQ e6
      exfalso
      exact f99 (by rw [Zok hno];rfl)
    ·have f95:¬ (n73≠0):=fun hh=>hh (Zw e5)
     have h0:hasE A (Q.length:Int)=0:=by rw [← hk_73_1];exact Classical.not_not.1 f95
     have hA0:=(ZI.1 h0).1
     have hlen0:=(ZI.1 h0).2
     have hlen:Q.length=A.links.length:=by omega
     have hn3:=(ZE hA0).1
     have hnz1:=List.length_pos_iff.2 (ZE hA0).2.1
     have hok:=Zg2 h0 hQ
     have hFz:=Zt1 hok
     have hFb:=Zw0 hok
     rw [Zg3] at hFb
     refine Zc (l:=plN A Q) (i:=0) (by rw [Zg3];omega) fun m0 hm0=> ?_
     refine Zc (l:=m0) (i:=0) (Zju h0 hQ hm0) fun p0 hp0=> ?_
     have hf0:=Zt2 hm0 hp0
     have hF0:0< (plN A Q).flatten.length:=(List.getElem?_eq_some_iff.1 hf0).1
     have hFn:(plN A Q).flatten.length≤1048576:=by omega
     have hFm:ptQ (plN A Q).flatten 0∈(plN A Q).flatten:=by rw [Zge hf0];exact List.mem_of_getElem? hf0
     refine Zpp (A:=A) (Q:=Q) hA2 hA0 hlen hQ ?_
     refine ZwJ (ZdW h0) (by rw [Zbi];omega) hok ?_
     refine⟨fun e=>absurd e (by decide),fun _=> ?_⟩
     refine Zsr (L:=plN A Q) hF0 hFn (by rw [Zg3];omega) ?_
     refine ZxW (l:=(plN A Q).flatten) hF0 hFn hFz fun p115 hp115=> ?_
     have hqq115:qs p115.1≤215000000∧qs p115.2≤215000000:=by rw [hp115];exact Zdh (fun m p=>(Ziv m p).1) (P:=fun p=>qs p.1≤215000000∧qs p.2≤215000000) _ _ (hFz _ hFm) hFz
     have hqa115:=hqq115.1
     have hqb115:=hqq115.2
     refine ZfS (q:=p115.1) (by omega) ?_
     refine ZxU (l:=(plN A Q).flatten) hF0 hFn hFz fun p120 hp120=> ?_
     have hqq120:qs p120.1≤215000000∧qs p120.2≤215000000:=by rw [hp120];exact Zdh (fun m p=>(Ziv m p).2.1) (P:=fun p=>qs p.1≤215000000∧qs p.2≤215000000) _ _ (hFz _ hFm) hFz
     have hqa120:=hqq120.1
     have hqb120:=hqq120.2
     refine ZfS (q:=p120.2) (by omega) ?_
     refine ZxV (l:=(plN A Q).flatten) hF0 hFn hFz fun p126 hp126=> ?_
     have hqq126:qs p126.1≤215000000∧qs p126.2≤215000000:=by rw [hp126];exact Zdh (fun m p=>(Ziv m p).2.2.1) (P:=fun p=>qs p.1≤215000000∧qs p.2≤215000000) _ _ (hFz _ hFm) hFz
     have hqa126:=hqq126.1
     have hqb126:=hqq126.2
     refine ZfS (q:=p126.1) (by omega) ?_
     refine ZxT (l:=(plN A Q).flatten) hF0 hFn hFz fun p131 hp131=> ?_
     have hqq131:qs p131.1≤215000000∧qs p131.2≤215000000:=by rw [hp131];exact Zdh (fun m p=>(Ziv m p).2.2.2) (P:=fun p=>qs p.1≤215000000∧qs p.2≤215000000) _ _ (hFz _ hFm) hFz
     have hqa131:=hqq131.1
     have hqb131:=hqq131.2
     have hx1:(arV A Q).1=cn p115.1:=by rw [Zgx h0];exact congrArg cn ((Ztn (plN A Q).flatten _ (ptB (ptQ (plN A Q).flatten 0)) rfl).symm.trans (congrArg Prod.fst hp115.symm))
     have hx2:(arV A Q).2.1=cn p120.2:=by rw [Zgx h0];exact congrArg cn ((Ztl (plN A Q).flatten _ (ptB (ptQ (plN A Q).flatten 0)) rfl).symm.trans (congrArg Prod.snd hp120.symm))
     have hx3:(arV A Q).2.2.1=cn p126.1:=by rw [Zgx h0];exact congrArg cn ((Ztm (plN A Q).flatten _ (ptB (ptQ (plN A Q).flatten 0)) rfl).symm.trans (congrArg Prod.fst hp126.symm))
     have hx4:(arV A Q).2.2.2=cn p131.2:=by rw [Zgx h0];exact congrArg cn ((Ztk (plN A Q).flatten _ (ptB (ptQ (plN A Q).flatten 0)) rfl).symm.trans (congrArg Prod.snd hp131.symm))
     refine ZfS (q:=p131.2) (by omega) ?_
     refine Zfo ⟨hx1,hx2,hx3,hx4⟩ ?_
     refine Eq.trans (b:=bool true) ?_ rfl
     rfl
theorem shapePlaces_walk (v0:Value) (A0:ArmV) (v1:Value) (l1:List RV) (s20:Bool) (a20 d20:ByteArray) (s21:Bool) (a21 d21:ByteArray) (s22:Bool) (a22 d22:ByteArray) (s23:Bool) (a23 d23:ByteArray) (N:Nat) (w:World) (_:1≤N) (hN:N≤1048576) (h0:DenAV w (fun b=>b< w.heap.size) noBs noMem v0 (arm A0)) (u0:A0.zs N) (h1:Den w (fun b=>b< w.heap.size) v1 (.list (l1.map eng.rd))) (u1:ratsZ l1 N) (_:a20.size≤N) (_:d20.size≤N) (_:a21.size≤N) (_:d21.size≤N) (_:a22.size≤N) (_:d22.size≤N) (_:a23.size≤N) (_:d23.size≤N) (hT:Tab w):
  Calls Tryz.prog 9 #[v0,v1,.agg #[.bool s20,.string a20,.string d20,.bool s21,.string a21,.string d21,.bool s22,.string a22,.string d22,.bool s23,.string a23,.string d23]] w fun e w'=>e= .returned (.bool true)∧Below w.heap.size w w':=
 Zar (I:=fun b=>b< w.heap.size) (Zep A0 l1 ⟨s20,a20,d20⟩ ⟨s21,a21,d21⟩ ⟨s22,a22,d22⟩ ⟨s23,a23,d23⟩ (Zbj u0 (by omega)) (fun x hx=>Nat.le_trans (u1.2 x hx) (by omega))) rfl hT (fun _ h=>h)
  ((((ZdU (vs:= []) rfl).cons ((Zb8 (v:=box ⟨s20,a20,d20⟩ ⟨s21,a21,d21⟩ ⟨s22,a22,d22⟩ ⟨s23,a23,d23⟩) rfl).2 rfl)).cons (show DenAV _ _ _ _ v1 (.val (.one (.d (.list _)))) from h1)).cons h0)
end
end Go.Proofs.YtpfemjpgbpnpkaaGreatDoor.eng
