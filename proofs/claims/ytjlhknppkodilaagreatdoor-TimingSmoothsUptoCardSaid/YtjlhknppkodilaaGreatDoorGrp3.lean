/- Joined by wip/bundle.py: XTckA XTckR. -/
import Derived.Test.YtjlhknppkodilaaGreatDoorGrpL
import Derived.Test.YtjlhknppkodilaaGreatDoorGrp2
import Derived.Test.YtjlhknppkodilaaGreatDoorGrpR
import Derived.Test.YtjlhknppkodilaaGreatDoorGrpZ
namespace Go.Proofs.YtjlhknppkodilaaGreatDoor.eng
open Go.RowKit num mem seg q held ratA ratB ratC ratD ratE vars ratF argopen
section
variable {K : AV → Prop}
end
end Go.Proofs.YtjlhknppkodilaaGreatDoor.eng
namespace Go.Proofs.YtjlhknppkodilaaGreatDoor.eng
open Go.RowKit num mem seg q held ratA ratB ratC ratD ratE vars ratF argopen
section
variable {K : AV → Prop}
set_option maxHeartbeats 4000000 in
set_option maxRecDepth 100000 in
theorem ZjE (A:ArmV) (Q:List RV) (hA:A.ok) (hQ:∀ x,x∈Q→x.z≤67108864) (hQn:Q.length≤1073741824):Spec Tryz.prog Tab 19 [.val (.agg [.d (.v (.string A.name)),.d (.v (.bool A.bx.s)),.d (.v (.string A.bx.a)),.d (.v (.string A.bx.d)),.d (.v (.bool A.by'.s)),.d (.v (.string A.by'.a)),.d (.v (.string A.by'.d)),.d (.v (.bool (A.bh))),.d (.v (.bool A.bt.s)),.d (.v (.string A.bt.a)),.d (.v (.string A.bt.d)),.d (.list (List.map lk A.links))]),.val (.one (.d (.list (List.map rd Q))))] (int (fitsE A Q)):=by
 have hA2:=hA
 obtain⟨z1,z2,z3,z4,z5,z6⟩:=hA
 have hL:(List.map lk A.links).length=A.links.length:=List.length_map ..
 have hLq:(List.map rd Q).length=Q.length:=List.length_map ..
 refine Zf Tryz.func19 rfl rfl Tryz.ntmps19 rfl (by kernel_rfl) rfl rfl ?_
 refine Zji (A:=A) (n:=((List.map rd Q).length:Int)) (by assumption) fun n11 hk_11_1=> ?_
 rw [List.length_map] at hk_11_1
 have hz0:n11=ffE A Q 0:=by rw [Zqb,hk_11_1]
 refine⟨Nat,fun i=> [(2,.val (.one (.ptr 2 0))),(5,int (ffE A Q i)),(12,.val (.one (.d (.list (List.map rd Q))))),(13,int ((List.map rd Q).length:Int)),(14,int (i:Int))],
  fun i=> [(2,.var 32 [.d (.v (.string A.name)),.d (.v (.bool A.bx.s)),.d (.v (.string A.bx.a)),.d (.v (.string A.bx.d)),.d (.v (.bool A.by'.s)),.d (.v (.string A.by'.a)),.d (.v (.string A.by'.d)),.d (.v (.bool (A.bh))),.d (.v (.bool A.bt.s)),.d (.v (.string A.bt.a)),.d (.v (.string A.bt.d)),.d (.list (List.map lk A.links))])],fun i=>i≤Q.length,fun i=>Q.length - i,0,?_,Nat.zero_le _,fun i hs=> ?_⟩
 ·constructor<;>(repeat' (first|exact rfl|exact True.intro|exact⟨_,_,rfl⟩|exact(by decide)|apply And.intro))
  all_goals first
   |exact congrArg (fun n:Int=>D.v (.int .i64 n)) hz0
   |exact congrArg (fun n:Int=>D.v (.int .i64 n)) hz0.symm
   |exact congrArg (fun n:Int=>D.v (.int .i64 n)) (by omega)
   |(simp;done)
 refine⟨fun e1=> ?_,fun e1=> ?_⟩
 ·have f15:(i:Int)< ((List.map rd Q).length:Int):=of_decide_eq_true e1
  refine get_ex (l:=Q) (i:=i) (by first|omega|exact Nat.mod_lt _ (by omega)) fun x17 hx17=> ?_
  have hzx17:=hQ x17 (List.mem_of_getElem? hx17)
  refine k_ix i [D.v (.bool x17.s),D.v (.string x17.a),D.v (.string x17.d)] (by first|rfl|omega|(rw [wrap64 _ (by omega) (by omega)];omega)) (Zm hx17) rfl ?_
  refine fork (fun e2=> ?_) (fun e2=> ?_)
  ·have f21:ffE A Q i=0:=Zjw e2
   refine get_ex (l:=A.links) (i:=i) (by have:=(Zff.1 (ZlE f21).1).2;omega) fun x25 hx25=> ?_
   obtain⟨hs1x25,hs2x25,hs3x25,hs4x25,hs5,hs6,hs7⟩:=z6 x25 (List.mem_of_getElem? hx25)
   refine k_ix i [D.v (.bool x25.len.s),D.v (.string x25.len.a),D.v (.string x25.len.d),D.v (.bool x25.low.s),D.v (.string x25.low.a),D.v (.string x25.low.d),D.v (.bool x25.high.s),D.v (.string x25.high.a),D.v (.string x25.high.d),D.v (.bool x25.speed.s),D.v (.string x25.speed.a),D.v (.string x25.speed.d),D.v (.bool x25.brake.s),D.v (.string x25.brake.a),D.v (.string x25.brake.d),D.list (List.map rdv x25.shape)] (by first|rfl|omega|(rw [wrap64 _ (by omega) (by omega)];omega)) (Zm hx25) rfl ?_
   refine ZC (x:=x25.low) (by omega) fun q28 h28 z28=> ?_
   refine k_ix i [D.v (.bool x25.len.s),D.v (.string x25.len.a),D.v (.string x25.len.d),D.v (.bool x25.low.s),D.v (.string x25.low.a),D.v (.string x25.low.d),D.v (.bool x25.high.s),D.v (.string x25.high.a),D.v (.string x25.high.d),D.v (.bool x25.speed.s),D.v (.string x25.speed.a),D.v (.string x25.speed.d),D.v (.bool x25.brake.s),D.v (.string x25.brake.a),D.v (.string x25.brake.d),D.list (List.map rdv x25.shape)] (by first|rfl|omega|(rw [wrap64 _ (by omega) (by omega)];omega)) (Zm hx25) rfl ?_
   refine ZC (x:=x25.high) (by omega) fun q35 h35 z35=> ?_
   refine ZC (x:=x17) (by omega) fun q38 h38 z38=> ?_
   refine ZoB (p:=q28) (q:=q35) (a:=q38) (by omega) (by omega) (by omega) (fun b39 hk_39_1=> ?_)
   refine⟨by kernel_rfl,?_⟩
   refine⟨fun e3=> ?_,fun e3=> ?_⟩
   ·have f41:¬ (hasQ q28 q35 q38=true):=fun hh=>absurd (hh.symm.trans (hk_39_1.symm.trans (ZcO e3))) (by decide)
    have hf:x17.q< x25.low.q∨x25.high.q< x17.q:=Classical.byContradiction fun hh=>f41 (Zii.2 ⟨by rw [h28,h38];exact Rat.not_lt.1 fun h=>hh (.inl h),by rw [h35,h38];exact Rat.not_lt.1 fun h=>hh (.inr h)⟩)
    have he:(17:Int)=ffE A Q (i+1):=(ZoF f21 hx25 hx17 hf).symm
    refine⟨i+1,by omega,by simp only;omega,?_⟩
    constructor<;>(repeat' (first|exact rfl|exact True.intro|apply And.intro))
    all_goals first
     |exact congrArg (fun n:Int=>D.v (.int .i64 n)) he
     |exact congrArg (fun n:Int=>D.v (.int .i64 n)) he.symm
     |exact congrArg (fun n:Int=>D.v (.int .i64 n)) (by rw [wrap64 _ (by omega) (by omega)];omega)
     |exact congrArg (fun n:Int=>D.v (.int .i64 n)) (by omega)
   ·have f41:¬ (¬ (hasQ q28 q35 q38=true)):=fun hh=>hh (hk_39_1.symm.trans (ZcP e3))
    have hf:¬ (x17.q< x25.low.q∨x25.high.q< x17.q):=by
     have hb:=Zii.1 (Classical.not_not.1 f41)
     rw [h28,h35,h38] at hb
     rintro(h|h)
     ·exact absurd hb.1 (Rat.not_le.2 h)
     ·exact absurd hb.2 (Rat.not_le.2 h)
    have he:ffE A Q i=ffE A Q (i+1):=by rw [Znk f21 hx25 hx17 hf,f21]
    refine⟨i+1,by omega,by simp only;omega,?_⟩
    constructor<;>(repeat' (first|exact rfl|exact True.intro|apply And.intro))
    all_goals first
     |exact congrArg (fun n:Int=>D.v (.int .i64 n)) he
     |exact congrArg (fun n:Int=>D.v (.int .i64 n)) he.symm
     |exact congrArg (fun n:Int=>D.v (.int .i64 n)) (by rw [wrap64 _ (by omega) (by omega)];omega)
     |exact congrArg (fun n:Int=>D.v (.int .i64 n)) (by omega)
  ·have f21:¬ (ffE A Q i=0):=Zjx e2
   refine⟨by kernel_rfl,?_⟩
   refine⟨fun e=>absurd e (by decide),fun _=> ?_⟩
   have he:ffE A Q i=ffE A Q (i+1):=(ZpG f21).symm
   refine⟨i+1,by omega,by simp only;omega,?_⟩
   constructor<;>(repeat' (first|exact rfl|exact True.intro|apply And.intro))
   all_goals first
    |exact congrArg (fun n:Int=>D.v (.int .i64 n)) he
    |exact congrArg (fun n:Int=>D.v (.int .i64 n)) he.symm
    |exact congrArg (fun n:Int=>D.v (.int .i64 n)) (by rw [wrap64 _ (by omega) (by omega)];omega)
    |exact congrArg (fun n:Int=>D.v (.int .i64 n)) (by omega)
 ·have f15:¬ ((i:Int)< ((List.map rd Q).length:Int)):=of_decide_eq_false e1
  refine Eq.trans (b:=int (ffE A Q i)) ?_ rfl
  rw [← ZoG (n:=i) (by omega)]
theorem Zlo {A:ArmV} {Q:List RV} (hA:A.ok) (hQ:∀ x,x∈Q→x.z≤67108864) (hQn:Q.length≤1073741824) (k:∀ n,n=fitsE A Q→K (int n)):Ask 19 [.val (.agg [.d (.v (.string A.name)),.d (.v (.bool A.bx.s)),.d (.v (.string A.bx.a)),.d (.v (.string A.bx.d)),.d (.v (.bool A.by'.s)),.d (.v (.string A.by'.a)),.d (.v (.string A.by'.d)),.d (.v (.bool (A.bh))),.d (.v (.bool A.bt.s)),.d (.v (.string A.bt.a)),.d (.v (.string A.bt.d)),.d (.list (List.map lk A.links))]),.val (.one (.d (.list (List.map rd Q))))] K:=use (ZjE A Q hA hQ hQn) rfl (k _ rfl)
end
end Go.Proofs.YtjlhknppkodilaaGreatDoor.eng
