/- Joined by wip/bundle.py: XTckA XTckR. -/
import Derived.Test.YtnhfpbcbhnfeaaaGreatDoorQGrpL
import Derived.Test.YtnhfpbcbhnfeaaaGreatDoorQGrp2
import Derived.Test.YtnhfpbcbhnfeaaaGreatDoorQGrpR
namespace Go.Proofs.YtnhfpbcbhnfeaaaGreatDoor.eng
open Go.RowKit num mem seg q held ratA ratB ratC ratD ratE vars ratF argopen
section
variable{K:AV->Prop}
end
section
variable{K:AV->Prop}
set_option maxHeartbeats 4000000 in
set_option maxRecDepth 100000 in
theorem Zqz{A:ArmV}{Q:List RV}(hA:A.ok)(hQ:∀x,x∈Q->x.z<=67108864)(hQn:Q.length<=1073741824)(k:∀n,n=fitsE A Q->K (int n)):Ask 5 [arm A,Xl rd Q] K:=use2 (k _ rfl) (by
 have hA2:=hA;obtain⟨z1,z2,z3,z4,z5,z6⟩:=hA;have hL:(A.links.map lk).length=A.links.length:=List.length_map ..;have hLq:(Q.map rd).length=Q.length:=List.length_map ..;refine Zb Tryz.func5 Tryz.ntmps5 ?_;refine Zm9 (A:=A) (n:=((Q.map rd).length:Int)) ωs fun n11 hk_11_1=>?_;rw[List.length_map]at hk_11_1;have hz0:n11=ffE A Q 0:=by rw[ZzY,hk_11_1]
 refine⟨Nat,fun i=>[(2,.val (.one (.ptr 2 0))),(5,int (ffE A Q i)),(12,Xl rd Q),(13,int ((Q.map rd).length:Int)),(14,int (i:Int))],
  fun i=>[(2,.var 32 (aC A))],fun i=>i<=Q.length,fun i=>Q.length-i,0,?_,Nat.zero_le _,fun i hs=>?_⟩
 .exact ωF
 refine⟨fun e1=>?_,fun e1=>?_⟩
 .have a5:(i:Int)<((Q.map rd).length:Int):=oT e1;refine Zm (l:=Q) (i:=i) ωm fun x17 a2=>?_;have hzx17:=hQ x17 (mG a2);refine k_ix i _ ωh (Zd a2) rfl<|fork (fun e2=>?_) (fun e2=>?_)
  .have a0:ffE A Q i=0:=ZaW e2;refine Zm (l:=A.links) (i:=i) (by have:=(ZaG.1 (Zq1 a0).1).2;omega) fun x25 a1=>?_;obtain⟨hs1x25,hs2x25,hs3x25,hs4x25,hs5,hs6,hs7⟩:=z6 x25 (mG a1);refine k_ix i _ ωh (Zd a1) rfl<|Zq (x:=x25.low) ω fun q28 h28 z28=> k_ix i _ ωh (Zd a1) rfl<|Zq (x:=x25.high) ω fun q35 h35 z35=> Zq (x:=x17) ω fun q38 h38 z38=> ZdM (p:=q28) (q:=q35) (a:=q38) ω ω ω (fun b39 a4=>⟨ωr,⟨fun e3=>?_,fun e3=>?_⟩⟩)
   .have a3:¬(hasQ q28 q35 q38=true):=fun hh=>absurd (hh.symm.trans (a4.symm.trans (Zbu e3))) ωd;have hf:x17.q<x25.low.q\/x25.high.q<x17.q:=Classical.byContradiction fun hh=>a3 (Zbk.2 ⟨by rw[h28,h38];exact Rat.not_lt.1 fun h=>hh (.inl h),by rw[h35,h38];exact Rat.not_lt.1 fun h=>hh (.inr h)⟩);have he:(17:Int)=ffE A Q (i+1):=(Zw4 a0 a1 a2 hf).symm;exact⟨i+1,ω,by simp only;omega,ωE⟩
   .have a3:¬(¬(hasQ q28 q35 q38=true)):=fun hh=>hh (a4.symm.trans (Zbv e3));have hf:¬(x17.q<x25.low.q\/x25.high.q<x17.q):=by
     have hb:=Zbk.1 (nN a3);rw[h28,h35,h38]at hb;rintro(h|h)
     .exact absurd hb.1 (Rat.not_le.2 h)
     .exact absurd hb.2 (Rat.not_le.2 h)
    have he:ffE A Q i=ffE A Q (i+1):=by rw[Zt9 a0 a1 a2 hf,a0]
    exact⟨i+1,ω,by simp only;omega,ωE⟩
  .have a0:¬(ffE A Q i=0):=ZaX e2;refine⟨ωr,⟨fun e=>absurd e ωd,fun _=>?_⟩⟩;have he:ffE A Q i=ffE A Q (i+1):=(Zy7 a0).symm;exact⟨i+1,ω,by simp only;omega,ωE⟩
 .have a5:¬((i:Int)<((Q.map rd).length:Int)):=oF e1;refine Eq.trans (b:=int (ffE A Q i)) ?_ rfl;rw[<-Zw5 (n:=i) ω]
 ) rfl
end
