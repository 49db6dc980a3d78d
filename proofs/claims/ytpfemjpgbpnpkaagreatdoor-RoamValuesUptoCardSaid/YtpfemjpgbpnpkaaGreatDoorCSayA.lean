/- Contracts: what an arm says: arm.Length, Joints, Clamp; hinges. Printed by wip/gp_says.py. -/
import Derived.Test.YtpfemjpgbpnpkaaGreatDoorCGrp3
import Derived.Test.YtpfemjpgbpnpkaaGreatDoorCEngH3b
import Derived.Test.YtpfemjpgbpnpkaaGreatDoorCFore0
set_option maxRecDepth 100000
namespace Go.Proofs.YtpfemjpgbpnpkaaGreatDoor.eng
open Go.RowKit num mem seg q held ratA ratB ratC ratD ratE vars ratF trq
section
variable {K : AV → Prop}
def jn (l:LinkV):List D:= [D.iface 165 (lk l)]
def jvQ (l:LinkV) (x:RV):Rat:=l.low.q+(l.high.q - l.low.q)*x.q
def lkAt (A:ArmV) (i:Nat):LinkV:=(A.links[i]?).getD ⟨z0,z0,z0,z0,z0, []⟩
theorem ZaF {A:ArmV} {i:Nat} {l:LinkV} (h:A.links[i]? =some l):lkAt A i=l:=by simp [lkAt,h]
def lnF (A:ArmV):Nat→Rat
 |0=>0
 |i+1=>lnF A i+(lkAt A i).len.q
open Classical in
noncomputable def lnV (A:ArmV):RV:=if armE A=0 then cn (lnF A A.links.length) else z0
open Classical in
noncomputable def jnV (A:ArmV):List LinkV:=if armE A=0 then A.links else []
def clE (l:LinkV) (x:Rat):Rat:=maxQ l.low.q (minQ l.high.q x)
def clQ (A:ArmV) (Q:List RV) (i:Nat):Rat:=clE (lkAt A i) (qAt Q i)
def clF (A:ArmV) (Q:List RV) (n:Nat):List Rat:=(List.range n).map (clQ A Q)
open Classical in
noncomputable def clV (A:ArmV) (Q:List RV):List Rat:=if hasE A (Q.length:Int)=0 then clF A Q A.links.length else []
theorem Zha {A:ArmV} (h:armE A=0):lnV A=cn (lnF A A.links.length):=if_pos h
theorem Zl9 {A:ArmV} (h:¬ armE A=0):lnV A=z0:=if_neg h
theorem ZcE {A:ArmV} (h:armE A=0):jnV A=A.links:=if_pos h
theorem Zmk {A:ArmV} (h:¬ armE A=0):jnV A= []:=if_neg h
theorem Zdr {A:ArmV} {Q:List RV} (h:hasE A (Q.length:Int)=0):clV A Q=clF A Q A.links.length:=if_pos h
theorem Zko {A:ArmV} {Q:List RV} (h:¬ hasE A (Q.length:Int)=0):clV A Q= []:=if_neg h
theorem Zds (A:ArmV) (Q:List RV) (n:Nat):(clF A Q n).length=n:=by simp [clF]
theorem ZlJ {α:Type} (g:Rat→α) (A:ArmV) (Q:List RV) (i:Nat):List.map g (clF A Q (i+1))=List.map g (clF A Q i)++ [g (clQ A Q i)]:=by
 simp [clF,List.range_succ]
theorem Zkp {A:ArmV} {Q:List RV} {n i:Nat} {p:Rat} (h:(clF A Q n)[i]? =some p):p=clQ A Q i:=by
 have hi:=(List.getElem?_eq_some_iff.1 h).1
 rw [Zds] at hi
 simp [clF,hi] at h
 exact h.symm
theorem ZmY {L:List LinkV} {i:Nat} {x:LinkV} (h:L[i]? =some x):List.map jn (L.take (i+1))=List.map jn (L.take i)++ [jn x]:=by
 rw [List.take_add_one,h,List.map_append];rfl
theorem Zls {A : ArmV} (hA : armE A = 0) : ∀ i, qs (lnF A i) ≤ 8 + i * 16
  | 0 => by have : qs (0 : Rat) ≤ 8 := by decide +kernel
            exact this
  | i + 1 => by
    have h := Zls hA i
    have g : qs (lkAt A i).len.q ≤ 4 := ZmL hA i
    have := Zg4 (lnF A i) (lkAt A i).len.q
    show qs (lnF A i + (lkAt A i).len.q) ≤ _
    omega
theorem Zgw {l:LinkV} {x:Rat} (hl:l.low.q< l.high.q) (h:x< l.low.q):clE l x=l.low.q:=by unfold clE maxQ minQ;grind
theorem ZeH {l:LinkV} {x:Rat} (hl:l.low.q< l.high.q) (h:l.high.q< x):clE l x=l.high.q:=by unfold clE maxQ minQ;grind
theorem Zgv {l:LinkV} {x:Rat} (h:¬ x< l.low.q) (g:¬ l.high.q< x):clE l x=x:=by unfold clE maxQ minQ;grind
theorem ZjE (w:World) (v:Value):(Instr.makeInterface 165 v).run Tryz.prog w= .ok (.iface 165 v) w:=by
 simp [Instr.makeInterface,run_underlying Tryz.underlying165]
theorem ZdW : MethodIs Tryz.prog 165 "Range" 356 := fun w v => by kernel_rfl
theorem Zck : MethodIs Tryz.prog 165 "Value" 357 := fun w v => by kernel_rfl
theorem Zfy {x y:Operand} (w:World) (l:Array Value):(do eqGuard .eql 59 x y (.iface 165 (.agg l)) .nilIface;binOp .eql 59 (.iface 165 (.agg l)) .nilIface:Sem Value).run Tryz.prog w= .ok (.bool false) w:=by
 have e (d:Nat) (w:World):(Op.equalIn (d+1) 59 (.iface 165 (.agg l)) .nilIface).run Tryz.prog w= .ok false w:=by simp [Op.equalIn,run_underlying Tryz.underlying59]
 simp [eqGuard,binOp,Op.equal,show Op.maxDepth=9999+1 from rfl,e 9999 w,Result.andThen]
theorem Zeb (l:LinkV):Spec Tryz.prog Tab 356 [.val (.agg [.d (.v (.bool l.len.s)),.d (.v (.string l.len.a)),.d (.v (.string l.len.d)),.d (.v (.bool l.low.s)),.d (.v (.string l.low.a)),.d (.v (.string l.low.d)),.d (.v (.bool l.high.s)),.d (.v (.string l.high.a)),.d (.v (.string l.high.d)),.d (.v (.bool l.speed.s)),.d (.v (.string l.speed.a)),.d (.v (.string l.speed.d)),.d (.v (.bool l.brake.s)),.d (.v (.string l.brake.a)),.d (.v (.string l.brake.d)),.d (.list (List.map rdv l.shape))])] (pair l.low l.high):=by
 refine Zb Tryz.func356 rfl rfl Tryz.ntmps356 rfl (by kernel_rfl) rfl rfl ?_
 refine Eq.trans (b:=pair l.low l.high) ?_ rfl
 rfl
theorem Zcu (l:LinkV) (x:RV) (h1:l.low.z≤67108864) (h2:l.high.z≤67108864) (hx:x.z≤67108864):Spec Tryz.prog Tab 357 [.val (.agg [.d (.v (.bool l.len.s)),.d (.v (.string l.len.a)),.d (.v (.string l.len.d)),.d (.v (.bool l.low.s)),.d (.v (.string l.low.a)),.d (.v (.string l.low.d)),.d (.v (.bool l.high.s)),.d (.v (.string l.high.a)),.d (.v (.string l.high.d)),.d (.v (.bool l.speed.s)),.d (.v (.string l.speed.a)),.d (.v (.string l.speed.d)),.d (.v (.bool l.brake.s)),.d (.v (.string l.brake.a)),.d (.v (.string l.brake.d)),.d (.list (List.map rdv l.shape))]),rat x] (rat (cn (jvQ l x))):=by
 refine Zb Tryz.func357 rfl rfl Tryz.ntmps357 rfl (by kernel_rfl) rfl rfl ?_
 refine Zgn (x:=l.high) (y:=l.low) (by omega) (by omega) fun q14 h14 z14=> ?_
 simp only [cn_z] at z14
 refine Zly (x:=cn q14) (y:=x) (by simp only [cn_z];omega) (by omega) fun q16 h16 z16=> ?_
 simp only [cn_z] at z16
 simp only [cn_q] at h16
 refine ZnS (x:=l.low) (y:=cn q16) (by omega) (by simp only [cn_z];omega) fun q17 h17 z17=> ?_
 simp only [cn_z] at z17
 simp only [cn_q] at h17
 refine⟨by kernel_rfl,?_⟩
 refine Eq.trans (b:=rat (cn q17)) ?_ rfl
 have e17:q17=jvQ l x:=by rw [h17,h16,h14];rfl
 rw [e17]
set_option maxHeartbeats 2000000 in
theorem ZlX (A:ArmV) (hA:A.ok):Spec Tryz.prog Tab 12 [.val (.agg [.d (.v (.string A.name)),.d (.v (.bool A.bx.s)),.d (.v (.string A.bx.a)),.d (.v (.string A.bx.d)),.d (.v (.bool A.by'.s)),.d (.v (.string A.by'.a)),.d (.v (.string A.by'.d)),.d (.v (.bool (A.bh))),.d (.v (.bool A.bt.s)),.d (.v (.string A.bt.a)),.d (.v (.string A.bt.d)),.d (.list (List.map lk A.links))])] (.tup [.agg [.d (.v (.bool (lnV A).s)),.d (.v (.string (lnV A).a)),.d (.v (.string (lnV A).d))],.one (.d (.v (.int .i64 (armE A))))]):=by
 have hA2:=hA
 have z6:=hA.2.2.2.2.2
 have hL:(List.map lk A.links).length=A.links.length:=List.length_map ..
 refine Zb Tryz.func12 rfl rfl Tryz.ntmps12 rfl (by kernel_rfl) rfl rfl ?_
 refine Zb5 (A:=A) (by assumption) fun n9 hk_9_1=> ?_
 refine⟨fun e1=> ?_,fun e1=> ?_⟩
 ·have f11:n9≠0:=Zy e1
  refine Eq.trans (b:= .tup [.agg [.d (.v (.bool z0.s)),.d (.v (.string z0.a)),.d (.v (.string z0.d))],.one (.d (.v (.int .i64 (n9))))]) ?_ rfl
  rw [Zl9 (by rw [← hk_9_1];exact f11),← hk_9_1]
  all_goals rfl
 ·have f11:¬ (n9≠0):=fun hh=>hh (Zz e1)
  have hA0:armE A=0:=by rw [← hk_9_1];exact Classical.not_not.1 f11
  have hn3:=(ZaI hA0).1
  refine k_of (0) (by omega) (by omega) fun q14 h14 z14=> ?_
  simp only [cn_z] at z14
  have e14:q14=lnF A 0:=h14
  refine⟨Nat,fun i=> [(2,.val (.one (.ptr 2 0))),(5,.val (.one (.ptr 5 0))),(16,.val (.one (.d (.list (List.map lk A.links))))),(17,int ((List.map lk A.links).length:Int)),(18,int (i:Int))],
   fun i=> [(2,.var 23 [.d (.v (.bool z0.s)),.d (.v (.string z0.a)),.d (.v (.string z0.d))]),(5,.var 23 [.d (.v (.bool (cn (lnF A i)).s)),.d (.v (.string (cn (lnF A i)).a)),.d (.v (.string (cn (lnF A i)).d))])],fun i=>i≤A.links.length,fun i=>A.links.length - i,0,?_,Nat.zero_le _,fun i hs=> ?_⟩
  ·constructor<;>(repeat' (first|exact rfl|exact True.intro|exact⟨_,_,rfl⟩|exact(by decide)|apply And.intro))
   all_goals first
    |exact congrArg (fun q:Rat=>D.v (.bool (cn q).s)) e14
    |exact congrArg (fun q:Rat=>D.v (.bool (cn q).s)) e14.symm
    |exact congrArg (fun q:Rat=>D.v (.string (cn q).a)) e14
    |exact congrArg (fun q:Rat=>D.v (.string (cn q).a)) e14.symm
    |exact congrArg (fun q:Rat=>D.v (.string (cn q).d)) e14
    |exact congrArg (fun q:Rat=>D.v (.string (cn q).d)) e14.symm
    |exact congrArg (fun n:Int=>D.v (.int .i64 n)) (by omega)
    |(simp;done)
  have hb:=Zls hA0 i
  refine⟨fun e2=> ?_,fun e2=> ?_⟩
  ·have f19:(i:Int)< ((List.map lk A.links).length:Int):=of_decide_eq_true e2
   refine ZP (l:=A.links) (i:=i) (by first|omega|exact Nat.mod_lt _ (by omega)) fun x20 hx20=> ?_
   have hzx20:=z6 x20 (List.mem_of_getElem? hx20)
   have hsx20:=ZR hA0 (List.mem_of_getElem? hx20)
   have hax20:=ZaF hx20
   refine k_ix i [D.v (.bool x20.len.s),D.v (.string x20.len.a),D.v (.string x20.len.d),D.v (.bool x20.low.s),D.v (.string x20.low.a),D.v (.string x20.low.d),D.v (.bool x20.high.s),D.v (.string x20.high.a),D.v (.string x20.high.d),D.v (.bool x20.speed.s),D.v (.string x20.speed.a),D.v (.string x20.speed.d),D.v (.bool x20.brake.s),D.v (.string x20.brake.a),D.v (.string x20.brake.d),D.list (List.map rdv x20.shape)] (by first|rfl|omega|(rw [wrap64 _ (by omega) (by omega)];omega)|(rw [wrap64 _ (by omega) (by omega)];split<;>omega)) (Zl hx20) rfl ?_
   refine ZnS (x:=cn (lnF A i)) (y:=x20.len) (by simp only [cn_z];omega) (by omega) fun q25 h25 z25=> ?_
   simp only [cn_z] at z25
   simp only [cn_q] at h25
   have e1:q25=lnF A (i+1):=by rw [h25,← hax20];rfl
   refine⟨i+1,by omega,by simp only;omega,?_⟩
   constructor<;>(repeat' (first|exact rfl|exact True.intro|apply And.intro))
   all_goals first
    |exact congrArg (fun q:Rat=>D.v (.bool (cn q).s)) e1
    |exact congrArg (fun q:Rat=>D.v (.bool (cn q).s)) e1.symm
    |exact congrArg (fun q:Rat=>D.v (.string (cn q).a)) e1
    |exact congrArg (fun q:Rat=>D.v (.string (cn q).a)) e1.symm
    |exact congrArg (fun q:Rat=>D.v (.string (cn q).d)) e1
    |exact congrArg (fun q:Rat=>D.v (.string (cn q).d)) e1.symm
    |exact congrArg (fun n:Int=>D.v (.int .i64 n)) (by rw [wrap64 _ (by omega) (by omega)];omega)
    |exact congrArg (fun n:Int=>D.v (.int .i64 n)) (by omega)
  ·have f19:¬ ((i:Int)< ((List.map lk A.links).length:Int)):=of_decide_eq_false e2
   refine Eq.trans (b:= .tup [.agg [.d (.v (.bool (cn (lnF A i)).s)),.d (.v (.string (cn (lnF A i)).a)),.d (.v (.string (cn (lnF A i)).d))],.one (.d (.v (.int .i64 (0))))]) ?_ rfl
   obtain rfl:i=A.links.length:=by omega
   rw [Zha hA0,hA0]
   all_goals rfl
theorem ZnU {A:ArmV} (hA:A.ok) (k:∀ n,n=armE A→K (.tup [.agg [.d (.v (.bool (lnV A).s)),.d (.v (.string (lnV A).a)),.d (.v (.string (lnV A).d))],.one (.d (.v (.int .i64 (n))))])):Ask 12 [.val (.agg [.d (.v (.string A.name)),.d (.v (.bool A.bx.s)),.d (.v (.string A.bx.a)),.d (.v (.string A.bx.d)),.d (.v (.bool A.by'.s)),.d (.v (.string A.by'.a)),.d (.v (.string A.by'.d)),.d (.v (.bool (A.bh))),.d (.v (.bool A.bt.s)),.d (.v (.string A.bt.a)),.d (.v (.string A.bt.d)),.d (.list (List.map lk A.links))])] K:=use (ZlX A hA) rfl (k _ rfl)
set_option maxHeartbeats 2000000 in
theorem ZgH (A:ArmV) (hA:A.ok):Spec Tryz.prog Tab 23 [.val (.agg [.d (.v (.string A.name)),.d (.v (.bool A.bx.s)),.d (.v (.string A.bx.a)),.d (.v (.string A.bx.d)),.d (.v (.bool A.by'.s)),.d (.v (.string A.by'.a)),.d (.v (.string A.by'.d)),.d (.v (.bool (A.bh))),.d (.v (.bool A.bt.s)),.d (.v (.string A.bt.a)),.d (.v (.string A.bt.d)),.d (.list (List.map lk A.links))])] (.tup [.one (.d (.list (List.map jn (jnV A)))),.one (.d (.v (.int .i64 (armE A))))]):=by
 have hA2:=hA
 have z6:=hA.2.2.2.2.2
 have hL:(List.map lk A.links).length=A.links.length:=List.length_map ..
 refine Zb Tryz.func23 rfl rfl Tryz.ntmps23 rfl (by kernel_rfl) rfl rfl ?_
 refine Zb5 (A:=A) (by assumption) fun n9 hk_9_1=> ?_
 refine⟨fun e1=> ?_,fun e1=> ?_⟩
 ·have f11:n9≠0:=Zy e1
  refine Eq.trans (b:= .tup [.one (.d (.list ([]))),.one (.d (.v (.int .i64 (n9))))]) ?_ rfl
  rw [Zmk (by rw [← hk_9_1];exact f11),← hk_9_1]
  all_goals rfl
 ·have f11:¬ (n9≠0):=fun hh=>hh (Zz e1)
  have hA0:armE A=0:=by rw [← hk_9_1];exact Classical.not_not.1 f11
  have hn3:=(ZaI hA0).1
  refine⟨Nat,fun i=> [(5,.val (.one (.row 25 0))),(14,.val (.one (.d (.list (List.map lk A.links))))),(15,int ((List.map lk A.links).length:Int)),(16,int (i:Int))],
   fun i=> [(25,.row 59 1 0 (List.map jn (A.links.take i)) true)],fun i=>i≤A.links.length,fun i=>A.links.length - i,0,?_,Nat.zero_le _,fun i hs=> ?_⟩
  ·constructor<;>(repeat' (first|exact rfl|exact True.intro|exact⟨_,_,rfl⟩|exact(by decide)|apply And.intro))
   all_goals first|exact congrArg (fun n:Int=>D.v (.int .i64 n)) (by omega)|exact congrArg (fun n:Int=>D.v (.int .i64 n)) (by rw [wrap64 _ (by omega) (by omega)];omega)|(simp;done)
  have hT:(List.map jn (A.links.take i)).length≤3:=by rw [List.length_map,List.length_take];omega
  refine⟨fun e2=> ?_,fun e2=> ?_⟩
  ·have f17:(i:Int)< ((List.map lk A.links).length:Int):=of_decide_eq_true e2
   refine ZP (l:=A.links) (i:=i) (by first|omega|exact Nat.mod_lt _ (by omega)) fun x18 hx18=> ?_
   have hzx18:=z6 x18 (List.mem_of_getElem? hx18)
   have hsx18:=ZR hA0 (List.mem_of_getElem? hx18)
   have hax18:=ZaF hx18
   refine k_ix i [D.v (.bool x18.len.s),D.v (.string x18.len.a),D.v (.string x18.len.d),D.v (.bool x18.low.s),D.v (.string x18.low.a),D.v (.string x18.low.d),D.v (.bool x18.high.s),D.v (.string x18.high.a),D.v (.string x18.high.d),D.v (.bool x18.speed.s),D.v (.string x18.speed.a),D.v (.string x18.speed.d),D.v (.bool x18.brake.s),D.v (.string x18.brake.a),D.v (.string x18.brake.d),D.list (List.map rdv x18.shape)] (by first|rfl|omega|(rw [wrap64 _ (by omega) (by omega)];omega)|(rw [wrap64 _ (by omega) (by omega)];split<;>omega)) (Zl hx18) rfl ?_
   refine⟨_,⟨rfl,fun w v=>ZjE w v⟩,?_⟩
   refine⟨⟨row1 rfl,(by show ((List.map jn (A.links.take i)).length+1)*16≤_;omega),(by show ((List.map jn (A.links.take i)).length+1)≤_;omega)⟩,?_⟩
   refine⟨i+1,by omega,by simp only;omega,?_⟩
   constructor<;>(repeat' (first|exact rfl|exact True.intro|apply And.intro))
   all_goals first
    |(rw [ZmY hx18];rfl)
    |exact congrArg (fun n:Int=>D.v (.int .i64 n)) (by rw [wrap64 _ (by omega) (by omega)];omega)
    |exact congrArg (fun n:Int=>D.v (.int .i64 n)) (by omega)
  ·have f17:¬ ((i:Int)< ((List.map lk A.links).length:Int)):=of_decide_eq_false e2
   refine Eq.trans (b:= .tup [.one (.d (.list (List.map jn (A.links.take i)))),.one (.d (.v (.int .i64 (0))))]) ?_ rfl
   obtain rfl:i=A.links.length:=by omega
   rw [ZcE hA0,hA0,List.take_length]
   all_goals rfl
theorem Zhk {A:ArmV} (hA:A.ok) (k:∀ n,n=armE A→K (.tup [.one (.d (.list (List.map jn (jnV A)))),.one (.d (.v (.int .i64 (n))))])):Ask 23 [.val (.agg [.d (.v (.string A.name)),.d (.v (.bool A.bx.s)),.d (.v (.string A.bx.a)),.d (.v (.string A.bx.d)),.d (.v (.bool A.by'.s)),.d (.v (.string A.by'.a)),.d (.v (.string A.by'.d)),.d (.v (.bool (A.bh))),.d (.v (.bool A.bt.s)),.d (.v (.string A.bt.a)),.d (.v (.string A.bt.d)),.d (.list (List.map lk A.links))])] K:=use (ZgH A hA) rfl (k _ rfl)
set_option maxHeartbeats 2000000 in
theorem Ziu (A:ArmV) (Q:List RV) (hA:A.ok) (hQ:∀ x,x∈Q→x.z≤1048576):Spec Tryz.prog Tab 24 [.val (.agg [.d (.v (.string A.name)),.d (.v (.bool A.bx.s)),.d (.v (.string A.bx.a)),.d (.v (.string A.bx.d)),.d (.v (.bool A.by'.s)),.d (.v (.string A.by'.a)),.d (.v (.string A.by'.d)),.d (.v (.bool (A.bh))),.d (.v (.bool A.bt.s)),.d (.v (.string A.bt.a)),.d (.v (.string A.bt.d)),.d (.list (List.map lk A.links))]),.val (.one (.d (.list (List.map rd Q))))] (.tup [.one (.d (.list (List.map rdc (clV A Q)))),.one (.d (.v (.int .i64 (hasE A (Q.length:Int)))))]):=by
 have hA2:=hA
 have z6:=hA.2.2.2.2.2
 have hL:(List.map lk A.links).length=A.links.length:=List.length_map ..
 have hLq:(List.map rd Q).length=Q.length:=List.length_map ..
 refine Zb Tryz.func24 rfl rfl Tryz.ntmps24 rfl (by kernel_rfl) rfl rfl ?_
 refine ZjW (A:=A) (n:=((List.map rd Q).length:Int)) (by assumption) fun n13 hk_13_1=> ?_
 rw [List.length_map] at hk_13_1
 refine⟨fun e1=> ?_,fun e1=> ?_⟩
 ·have f15:n13≠0:=Zy e1
  refine Eq.trans (b:= .tup [.one (.d (.list ([]))),.one (.d (.v (.int .i64 (n13))))]) ?_ rfl
  rw [Zko (by rw [← hk_13_1];exact f15),← hk_13_1]
  all_goals rfl
 ·have f15:¬ (n13≠0):=fun hh=>hh (Zz e1)
  have h0:hasE A (Q.length:Int)=0:=by rw [← hk_13_1];exact Classical.not_not.1 f15
  have hA0:=(ZaX.1 h0).1
  have hlen0:=(ZaX.1 h0).2
  have hlen:Q.length=A.links.length:=by omega
  have hn3:=(ZaI hA0).1
  refine⟨Nat,fun i=> [(1,.val (.one (.d (.list (List.map rd Q))))),(7,.val (.one (.row 37 0))),(18,.val (.one (.d (.list (List.map lk A.links))))),(19,int ((List.map lk A.links).length:Int)),(20,int (i:Int))],
   fun i=> [(37,.row 23 3 0 (List.map rdc (clF A Q i)) true)],fun i=>i≤A.links.length,fun i=>A.links.length - i,0,?_,Nat.zero_le _,fun i hs=> ?_⟩
  ·constructor<;>(repeat' (first|exact rfl|exact True.intro|exact⟨_,_,rfl⟩|exact(by decide)|apply And.intro))
   all_goals first|exact congrArg (fun n:Int=>D.v (.int .i64 n)) (by omega)|exact congrArg (fun n:Int=>D.v (.int .i64 n)) (by rw [wrap64 _ (by omega) (by omega)];omega)|(simp;done)
  have hT:(List.map rdc (clF A Q i)).length≤3:=by rw [List.length_map,Zds];omega
  refine⟨fun e2=> ?_,fun e2=> ?_⟩
  ·have f21:(i:Int)< ((List.map lk A.links).length:Int):=of_decide_eq_true e2
   refine ZP (l:=A.links) (i:=i) (by first|omega|exact Nat.mod_lt _ (by omega)) fun x23 hx23=> ?_
   have hzx23:=z6 x23 (List.mem_of_getElem? hx23)
   have hsx23:=ZR hA0 (List.mem_of_getElem? hx23)
   have hax23:=ZaF hx23
   refine k_ix i [D.v (.bool x23.len.s),D.v (.string x23.len.a),D.v (.string x23.len.d),D.v (.bool x23.low.s),D.v (.string x23.low.a),D.v (.string x23.low.d),D.v (.bool x23.high.s),D.v (.string x23.high.a),D.v (.string x23.high.d),D.v (.bool x23.speed.s),D.v (.string x23.speed.a),D.v (.string x23.speed.d),D.v (.bool x23.brake.s),D.v (.string x23.brake.a),D.v (.string x23.brake.d),D.list (List.map rdv x23.shape)] (by first|rfl|omega|(rw [wrap64 _ (by omega) (by omega)];omega)|(rw [wrap64 _ (by omega) (by omega)];split<;>omega)) (Zl hx23) rfl ?_
   refine ZP (l:=Q) (i:=i) (by first|omega|exact Nat.mod_lt _ (by omega)) fun x32 hx32=> ?_
   have hzx32:=hQ x32 (List.mem_of_getElem? hx32)
   have hxx32q:x32.q=qAt Q i:=(Ze7 hx32).symm
   refine k_ix i [D.v (.bool x32.s),D.v (.string x32.a),D.v (.string x32.d)] (by first|rfl|omega|(rw [wrap64 _ (by omega) (by omega)];omega)|(rw [wrap64 _ (by omega) (by omega)];split<;>omega)) (Zl hx32) rfl ?_
   refine Zol (x:=x23.high) (y:=x32) (by omega) (by omega) fun q34 h34 z34=> ?_
   simp only [cn_z] at z34
   refine Zom (x:=x23.low) (y:=cn q34) (by omega) (by simp only [cn_z];omega) fun q35 h35 z35=> ?_
   simp only [cn_z] at z35
   simp only [cn_q] at h35
   refine⟨⟨row1 rfl,(by show ((List.map rdc (clF A Q i)).length+1)*40≤_;omega),(by show ((List.map rdc (clF A Q i)).length+1)≤_;omega)⟩,?_⟩
   refine⟨by kernel_rfl,?_⟩
   have e1:q35=clQ A Q i:=by rw [h35,h34,hxx32q,← hax23];rfl
   refine⟨i+1,by omega,by simp only;omega,?_⟩
   constructor<;>(repeat' (first|exact rfl|exact True.intro|apply And.intro))
   all_goals first
    |(rw [ZlJ,← e1];rfl)
    |exact congrArg (fun n:Int=>D.v (.int .i64 n)) (by rw [wrap64 _ (by omega) (by omega)];omega)
    |exact congrArg (fun n:Int=>D.v (.int .i64 n)) (by omega)
  ·have f21:¬ ((i:Int)< ((List.map lk A.links).length:Int)):=of_decide_eq_false e2
   refine Eq.trans (b:= .tup [.one (.d (.list (List.map rdc (clF A Q i)))),.one (.d (.v (.int .i64 (0))))]) ?_ rfl
   obtain rfl:i=A.links.length:=by omega
   rw [Zdr h0,h0]
   all_goals rfl
theorem ZmX {A:ArmV} {Q:List RV} (hA:A.ok) (hQ:∀ x,x∈Q→x.z≤1048576) (k:∀ n,n=hasE A (Q.length:Int)→K (.tup [.one (.d (.list (List.map rdc (clV A Q)))),.one (.d (.v (.int .i64 (n))))])):Ask 24 [.val (.agg [.d (.v (.string A.name)),.d (.v (.bool A.bx.s)),.d (.v (.string A.bx.a)),.d (.v (.string A.bx.d)),.d (.v (.bool A.by'.s)),.d (.v (.string A.by'.a)),.d (.v (.string A.by'.d)),.d (.v (.bool (A.bh))),.d (.v (.bool A.bt.s)),.d (.v (.string A.bt.a)),.d (.v (.string A.bt.d)),.d (.list (List.map lk A.links))]),.val (.one (.d (.list (List.map rd Q))))] K:=use (Ziu A Q hA hQ) rfl (k _ rfl)
end
end Go.Proofs.YtpfemjpgbpnpkaaGreatDoor.eng
