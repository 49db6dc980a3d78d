/- Contracts: what an arm says: arm.Length, Joints, Clamp; hinges. Printed by wip/gp_says.py. -/
import Derived.Test.YtnhfpbcbhnfeaaaGreatDoorQGrp3
set_option maxRecDepth 100000
namespace Go.Proofs.YtnhfpbcbhnfeaaaGreatDoor.eng
open Go.RowKit num mem seg q held ratA ratB ratC ratD ratE vars ratF trq
section
variable{K:AV->Prop}
def jn(l:LinkV):List D:=[D.iface 162 (lk l)]
def jvQ(l:LinkV)(x:RV):Rat:=l.low.q+(l.high.q-l.low.q)*x.q
def lkAt(A:ArmV)(i:Nat):LinkV:=(A.links[i]?).getD ⟨z0,z0,z0,z0,z0, []⟩
theorem Zcd{A:ArmV}{i:Nat}{l:LinkV}(h:A.links[i]? =some l):lkAt A i=l:=by simp[lkAt,h]
open Classical in
noncomputable def jnV(A:ArmV):List LinkV:=if armE A=0 then A.links else []
theorem ZlD{A:ArmV}(h:armE A=0):jnV A=A.links:=if_pos h
theorem ZyZ{A:ArmV}(h:¬armE A=0):jnV A= []:=if_neg h
theorem ZwW{L:List LinkV}{i:Nat}{x:LinkV}(h:L[i]? =some x):List.map jn (L.take (i+1))=List.map jn (L.take i)++[jn x]:=by
 rw[List.take_add_one,h,List.map_append];rfl
theorem ZpP(w:World)(v:Value):(Instr.makeInterface 162 v).run Tryz.prog w= .ok (.iface 162 v) w:=by
 simp[Instr.makeInterface,run_underlying Tryz.underlying162]
theorem ZmU : MethodIs Tryz.prog 162 "Value" 263 := fun w v => ωr
theorem Znw(l:LinkV)(x:RV)(h1:l.low.z<=67108864)(h2:l.high.z<=67108864)(hx:x.z<=67108864):Spec Tryz.prog Tab 263 [.val (.agg (X1 l.len<|X1 l.low<|X1 l.high<|X1 l.speed<|X1 l.brake [.d (.list (l.shape.map rdv))])),rat x] (rat (cn (jvQ l x))):=by
 refine Zb Tryz.func263 Tryz.ntmps263 ?_;refine Zd7 (x:=l.high) (y:=l.low) ω ω fun q14 h14 z14=>?_;simp only[cn_z]at z14;refine Zcy (x:=cn q14) (y:=x) ωz ω fun q16 h16 z16=>?_;simp only[cn_z]at z16;simp only[cn_q]at h16;refine Zd8 (x:=l.low) (y:=cn q16) ω ωz fun q17 h17 z17=>?_;simp only[cn_z]at z17;simp only[cn_q]at h17;refine⟨ωr,Eq.trans (b:=rat (cn q17)) ?_ rfl⟩;have e17:q17=jvQ l x:=by rw[h17,h16,h14];rfl
 rw[e17]
set_option maxHeartbeats 2000000 in
theorem ZtP{A:ArmV}(hA:A.ok)(k:∀n,n=armE A->K (.tup [.one (.d (.list ((jnV A).map jn))),.one (.d (.v (.int .i64 (n))))])):Ask 58 [arm A] K:=use2 (k _ rfl) (by
 have hA2:=hA;have z6:=hA.2.2.2.2.2;have hL:(A.links.map lk).length=A.links.length:=List.length_map ..;refine Zb Tryz.func58 Tryz.ntmps58 ?_;refine Zhf (A:=A) ωs fun n9 hk_9_1=>⟨fun e1=>?_,fun e1=>?_⟩
 .have f11:n9≠0:=ZO e1;refine Eq.trans (b:=.tup [.one (.d (.list ([]))),.one (.d (.v (.int .i64 (n9))))]) ?_ rfl;rw[ZyZ (by rw[<-hk_9_1];exact f11),<-hk_9_1]
  all_goals rfl
 .have f11:¬(n9≠0):=fun hh=>hh (ZP e1);have hA0:armE A=0:=by rw[<-hk_9_1];exact nN f11
  have hn3:=(Zy hA0).1;refine⟨Nat,fun i=>[(5,.val (.one (.row 25 0))),(14,Xl lk A.links),(15,int ((A.links.map lk).length:Int)),(16,int (i:Int))],
   fun i=>[(25,.row 116 1 0 ((A.links.take i).map jn) true)],fun i=>i<=A.links.length,fun i=>A.links.length-i,0,?_,Nat.zero_le _,fun i hs=>?_⟩
  .exact ωe
  have hT:((A.links.take i).map jn).length<=3:=by rw[List.length_map,List.length_take];omega
  refine⟨fun e2=>?_,fun e2=>?_⟩
  .have a1:(i:Int)<((A.links.map lk).length:Int):=oT e2;refine Zm (l:=A.links) (i:=i) ωm fun x18 a0=>?_;have hzx18:=z6 x18 (mG a0);have hsx18:=ZK hA0 (mG a0);have hax18:=Zcd a0;refine k_ix i _ ωf (Zd a0) rfl ⟨_,⟨rfl,fun w v=>ZpP w v⟩,⟨⟨row1 rfl,(by show (((A.links.take i).map jn).length+1)*16<=_;omega),(by show (((A.links.take i).map jn).length+1)<=_;omega)⟩,⟨i+1,ω,by simp only;omega,?_⟩⟩⟩;constructor<;>(repeat' apply And.intro)<;>first|exact ωq|(rw[ZwW a0];rfl)
  .have a1:¬((i:Int)<((A.links.map lk).length:Int)):=oF e2;refine Eq.trans (b:=.tup [.one (.d (.list ((A.links.take i).map jn))),.one (.d (.v (.int .i64 (0))))]) ?_ rfl;obtain rfl:i=A.links.length:=ω;rw[ZlD hA0,hA0,List.take_length]
   all_goals rfl
 ) rfl
end
