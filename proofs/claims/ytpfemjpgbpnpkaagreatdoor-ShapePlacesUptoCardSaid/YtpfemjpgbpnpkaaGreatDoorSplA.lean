/- Contracts: shape.Around, Corners; lists of points of the reference: Concat, MinFunc, MaxFunc. Printed by wip/gp_spl.py. -/
import Derived.Test.YtpfemjpgbpnpkaaGreatDoorGrp1
import Derived.Test.YtpfemjpgbpnpkaaGreatDoorGrpU
import Derived.Test.YtpfemjpgbpnpkaaGreatDoorLawClr
set_option maxRecDepth 100000
namespace Go.Proofs.YtpfemjpgbpnpkaaGreatDoor.eng
open Go.RowKit num mem seg q held ratA ratB ratC ratD ratE vars ratF argopen trq
section
variable {K : AV → Prop}
theorem Zxj:Tryz.prog.underlying 3=some (.int .i64):=by kernel_rfl
theorem Zli {α:Type} {L:List (List α)} {i:Nat} {m:List α} (h:L[i]? =some m):(L.take (i+1)).flatten.length=(L.take i).flatten.length+m.length:=by
 rw [List.take_add_one,h,List.flatten_append,List.length_append];simp
theorem ZjX {α:Type} (L:List (List α)) (i:Nat):(L.take i).flatten.length≤L.flatten.length:=by
 have e:L.flatten=(L.take i).flatten++(L.drop i).flatten:=by rw [← List.flatten_append,List.take_append_drop]
 rw [e,List.length_append];omega
theorem Ziw {α β:Type} (g:α→β) {L:List (List α)} {i:Nat} {m:List α} (h:L[i]? =some m):List.map g (L.take (i+1)).flatten=List.map g (L.take i).flatten++List.map g m:=by
 rw [List.take_add_one,h,List.flatten_append,List.map_append];simp
theorem Zt2 {α:Type} {L:List (List α)} {m:List α} {p:α} (h:L[0]? =some m) (g:m[0]? =some p):L.flatten[0]? =some p:=by
 cases L with
 |nil=>simp at h
 |cons a r=>
  obtain rfl:a=m:=by simpa using h
  rw [List.flatten_cons,List.getElem?_append_left (List.getElem?_eq_some_iff.1 g).1];exact g
theorem ZpZ {m:List (Rat×Rat)} {i:Nat} {x:RV×RV} (h:(cvl m)[i]? =some x):∃ p,m[i]? =some p∧x=(cn p.1,cn p.2):=by
 unfold cvl at h
 rw [List.getElem?_map] at h
 obtain⟨p,hp,e⟩:=Option.map_eq_some_iff.1 h
 exact⟨p,hp,e.symm⟩
def plN (A:ArmV) (Q:List RV):List (List (Rat×Rat)):=plcL A Q A.links.length
theorem Zty {A:ArmV} {Q:List RV} (h0:hasE A (Q.length:Int)=0) {i:Nat} {x:List (RV×RV)} (h:(plcV A Q)[i]? =some x):∃ m,(plN A Q)[i]? =some m∧x=cvl m:=by
 rw [ZdW h0,List.getElem?_map] at h
 obtain⟨m,hm,e⟩:=Option.map_eq_some_iff.1 h
 exact⟨m,hm,e.symm⟩
theorem Zg3 (A:ArmV) (Q:List RV):(plN A Q).length=A.links.length:=Zbi ..
theorem Zg2 {A:ArmV} {Q:List RV} (h0:hasE A (Q.length:Int)=0) (hQ:∀ x,x∈Q→x.z≤1048576):∀ a,a∈plN A Q→okP a:=ZrF (ZI.1 h0).1 hQ
theorem Zju {A:ArmV} {Q:List RV} (h0:hasE A (Q.length:Int)=0) (hQ:∀ x,x∈Q→x.z≤1048576) {i:Nat} {m:List (Rat×Rat)} (h:(plN A Q)[i]? =some m):0< m.length:=by
 obtain⟨rfl,hlt⟩:=Zom h
 have:=(ZkR (ZI.1 h0).1 hQ (List.getElem?_eq_getElem hlt)).2
 have h3:=(ZdL.1 this).2.1
 rw [Zd5] at h3;omega
theorem Zt1 {L:List (List (Rat×Rat))} (h:∀ a,a∈L→okP a):∀ p,p∈L.flatten→qs p.1≤215000000∧qs p.2≤215000000:=by
 intro p hp
 obtain⟨a,ha,hpa⟩:=List.mem_flatten.1 hp
 exact(h a ha).2 p hpa
theorem Zw0 {L:List (List (Rat×Rat))} (h:∀ a,a∈L→okP a):L.flatten.length≤8*L.length:=by
 induction L with
 |nil=>simp
 |cons a r ih=>
  have:=ih (fun b hb=>h b (List.mem_cons_of_mem _ hb))
  have:=(h a (by simp)).1
  rw [List.flatten_cons,List.length_append,List.length_cons];omega
def arB (A:ArmV) (Q:List RV):B4:=foldB (ptB (ptQ (plN A Q).flatten 0)) (plN A Q).flatten
noncomputable def arV (A:ArmV) (Q:List RV):RV×RV×RV×RV:=if hasE A (Q.length:Int)=0 then (cn (arB A Q).xl,cn (arB A Q).yl,cn (arB A Q).xh,cn (arB A Q).yh) else (z0,z0,z0,z0)
theorem Zgx {A:ArmV} {Q:List RV} (h:hasE A (Q.length:Int)=0):arV A Q=(cn (arB A Q).xl,cn (arB A Q).yl,cn (arB A Q).xh,cn (arB A Q).yh):=if_pos h
theorem ZiM {A:ArmV} {Q:List RV} (h:¬ hasE A (Q.length:Int)=0):arV A Q=(z0,z0,z0,z0):=if_neg h
theorem ZxH {p:Rat×Rat} {B:Nat} (h:qs p.1≤B∧qs p.2≤B):(ptB p).z B:=⟨⟨h.1,h.1⟩,h.2,h.2⟩
set_option maxHeartbeats 4000000 in
theorem Zkt (A:ArmV) (Q:List RV) (hA:A.ok) (hQ:∀ x,x∈Q→x.z≤1048576):Spec Tryz.prog Tab 77 [.val (.agg [.d (.v (.string A.name)),.d (.v (.bool A.bx.s)),.d (.v (.string A.bx.a)),.d (.v (.string A.bx.d)),.d (.v (.bool A.by'.s)),.d (.v (.string A.by'.a)),.d (.v (.string A.by'.d)),.d (.v (.bool (A.bh))),.d (.v (.bool A.bt.s)),.d (.v (.string A.bt.a)),.d (.v (.string A.bt.d)),.d (.list (List.map lk A.links))]),.val (.one (.d (.list (List.map rd Q))))] (.tup [.agg [.d (.v (.bool ((arV A Q).1).s)),.d (.v (.string ((arV A Q).1).a)),.d (.v (.string ((arV A Q).1).d)),.d (.v (.bool ((arV A Q).2.1).s)),.d (.v (.string ((arV A Q).2.1).a)),.d (.v (.string ((arV A Q).2.1).d)),.d (.v (.bool ((arV A Q).2.2.1).s)),.d (.v (.string ((arV A Q).2.2.1).a)),.d (.v (.string ((arV A Q).2.2.1).d)),.d (.v (.bool ((arV A Q).2.2.2).s)),.d (.v (.string ((arV A Q).2.2.2).a)),.d (.v (.string ((arV A Q).2.2.2).d))],.one (.d (.v (.int .i64 (hasE A (Q.length:Int)))))]):=by
 have hA2:=hA
 have hLq:(List.map rd Q).length=Q.length:=List.length_map ..
 refine Za Tryz.func77 rfl rfl Tryz.ntmps77 rfl (by kernel_rfl) rfl rfl ?_
 refine Zpq (A:=A) (Q:=Q) (by assumption) hQ fun n16 hk_16_1=> ?_
 refine⟨fun e1=> ?_,fun e1=> ?_⟩
 ·have f20:n16≠0:=Zv e1
  refine Eq.trans (b:= .tup [.agg [.d (.v (.bool z0.s)),.d (.v (.string z0.a)),.d (.v (.string z0.d)),.d (.v (.bool z0.s)),.d (.v (.string z0.a)),.d (.v (.string z0.d)),.d (.v (.bool z0.s)),.d (.v (.string z0.a)),.d (.v (.string z0.d)),.d (.v (.bool z0.s)),.d (.v (.string z0.a)),.d (.v (.string z0.d))],.one (.d (.v (.int .i64 (n16))))]) ?_ rfl
  rw [ZiM (by rw [← hk_16_1];exact f20),← hk_16_1]
  all_goals rfl
 ·have f20:¬ (n16≠0):=fun hh=>hh (Zw e1)
  have h0:hasE A (Q.length:Int)=0:=by rw [← hk_16_1];exact Classical.not_not.1 f20
  obtain⟨hA0,hlen0⟩:=ZI.1 h0
  obtain⟨hn3,hnz,_⟩:=ZE hA0
  have hnz1:=List.length_pos_iff.2 hnz
  refine Zc (l:=(plcV A Q)) (i:=0) (by rw [ZdW h0,List.length_map,Zbi];omega) fun x24 hx24=> ?_
  obtain⟨m24,hm24,ev24⟩:=Zty h0 hx24
  have hok24:=Zg2 h0 hQ m24 (List.mem_of_getElem? hm24)
  have hpo24:=Zju h0 hQ hm24
  have hl24:x24.length=m24.length:=by rw [ev24,Zd5]
  have hl824:=hok24.1
  refine k_ix 0 [D.list (List.map rdv x24)] (by first|rfl|omega|(rw [wrap64 _ (by omega) (by omega)];omega)|(rw [wrap64 _ (by omega) (by omega)];split<;>omega)) (Zb hx24) rfl ?_
  refine Zc (l:=x24) (i:=0) (by omega) fun x26 hx26=> ?_
  obtain⟨p26,hp26,ep26⟩:=ZpZ (by rw [← ev24];exact hx26)
  obtain⟨hq261,hq262⟩:=hok24.2 p26 (List.mem_of_getElem? hp26)
  have ea26:x26.1=cn p26.1:=by rw [ep26]
  have eb26:x26.2=cn p26.2:=by rw [ep26]
  have hz261:x26.1.z≤215000000:=by rw [ea26,cn_z];exact hq261
  have hz262:x26.2.z≤215000000:=by rw [eb26,cn_z];exact hq262
  refine k_ix 0 [D.v (.bool x26.1.s),D.v (.string x26.1.a),D.v (.string x26.1.d),D.v (.bool x26.2.s),D.v (.string x26.2.a),D.v (.string x26.2.d)] (by first|rfl|omega|(rw [wrap64 _ (by omega) (by omega)];omega)|(rw [wrap64 _ (by omega) (by omega)];split<;>omega)) (Zb hx26) rfl ?_
  refine k_ix 0 [D.list (List.map rdv x24)] (by first|rfl|omega|(rw [wrap64 _ (by omega) (by omega)];omega)|(rw [wrap64 _ (by omega) (by omega)];split<;>omega)) (Zb hx24) rfl ?_
  refine k_ix 0 [D.v (.bool x26.1.s),D.v (.string x26.1.a),D.v (.string x26.1.d),D.v (.bool x26.2.s),D.v (.string x26.2.a),D.v (.string x26.2.d)] (by first|rfl|omega|(rw [wrap64 _ (by omega) (by omega)];omega)|(rw [wrap64 _ (by omega) (by omega)];split<;>omega)) (Zb hx26) rfl ?_
  refine⟨by kernel_rfl,?_⟩
  have hpp:=Zt2 hm24 hp26
  have hLP:(List.map rdvs (plcV A Q)).length=A.links.length:=by rw [ZdW h0,List.length_map,List.length_map,Zbi]
  have hzz:=Zt1 (Zg2 h0 hQ)
  refine⟨Nat,fun i=> [(4,.val (.one (.ptr 4 0))),(8,.val (.one (.ptr 8 0))),(34,.val (.one (.d (.list (List.map rdvs (plcV A Q)))))),(35,int ((List.map rdvs (plcV A Q)).length:Int)),(36,int (i:Int))],
   fun i=> [(4,.var 129 [.d (.v (.bool z0.s)),.d (.v (.string z0.a)),.d (.v (.string z0.d)),.d (.v (.bool z0.s)),.d (.v (.string z0.a)),.d (.v (.string z0.d)),.d (.v (.bool z0.s)),.d (.v (.string z0.a)),.d (.v (.string z0.d)),.d (.v (.bool z0.s)),.d (.v (.string z0.a)),.d (.v (.string z0.d))]),(8,.var 129 [.d (.v (.bool (cn (foldB (ptB p26) ((plN A Q).take i).flatten).xl).s)),.d (.v (.string (cn (foldB (ptB p26) ((plN A Q).take i).flatten).xl).a)),.d (.v (.string (cn (foldB (ptB p26) ((plN A Q).take i).flatten).xl).d)),.d (.v (.bool (cn (foldB (ptB p26) ((plN A Q).take i).flatten).yl).s)),.d (.v (.string (cn (foldB (ptB p26) ((plN A Q).take i).flatten).yl).a)),.d (.v (.string (cn (foldB (ptB p26) ((plN A Q).take i).flatten).yl).d)),.d (.v (.bool (cn (foldB (ptB p26) ((plN A Q).take i).flatten).xh).s)),.d (.v (.string (cn (foldB (ptB p26) ((plN A Q).take i).flatten).xh).a)),.d (.v (.string (cn (foldB (ptB p26) ((plN A Q).take i).flatten).xh).d)),.d (.v (.bool (cn (foldB (ptB p26) ((plN A Q).take i).flatten).yh).s)),.d (.v (.string (cn (foldB (ptB p26) ((plN A Q).take i).flatten).yh).a)),.d (.v (.string (cn (foldB (ptB p26) ((plN A Q).take i).flatten).yh).d))])],fun i=>i≤A.links.length,fun i=>A.links.length - i,0,?_,Nat.zero_le _,fun i hs=> ?_⟩
  ·constructor<;>(repeat' (first|exact rfl|exact True.intro|exact⟨_,_,rfl⟩|exact(by decide)|apply And.intro))
   all_goals first
    |exact congrArg (fun r:RV=>D.v (.bool r.s)) ea26
    |exact congrArg (fun r:RV=>D.v (.bool r.s)) ea26.symm
    |exact congrArg (fun r:RV=>D.v (.string r.a)) ea26
    |exact congrArg (fun r:RV=>D.v (.string r.a)) ea26.symm
    |exact congrArg (fun r:RV=>D.v (.string r.d)) ea26
    |exact congrArg (fun r:RV=>D.v (.string r.d)) ea26.symm
    |exact congrArg (fun r:RV=>D.v (.bool r.s)) eb26
    |exact congrArg (fun r:RV=>D.v (.bool r.s)) eb26.symm
    |exact congrArg (fun r:RV=>D.v (.string r.a)) eb26
    |exact congrArg (fun r:RV=>D.v (.string r.a)) eb26.symm
    |exact congrArg (fun r:RV=>D.v (.string r.d)) eb26
    |exact congrArg (fun r:RV=>D.v (.string r.d)) eb26.symm
  have hbi:B4.z (foldB (ptB p26) ((plN A Q).take i).flatten) 215000000:=ZjW _ _ (ZxH ⟨hq261,hq262⟩) (fun p hp=>hzz p (by rw [← List.take_append_drop i (plN A Q),List.flatten_append];exact List.mem_append_left _ hp))
  refine⟨fun e2=> ?_,fun e2=> ?_⟩
  ·have f37:(i:Int)< ((List.map rdvs (plcV A Q)).length:Int):=of_decide_eq_true e2
   refine Zc (l:=(plcV A Q)) (i:=i) (by rw [ZdW h0,List.length_map,Zbi];omega) fun x38 hx38=> ?_
   obtain⟨m38,hm38,ev38⟩:=Zty h0 hx38
   have hok38:=Zg2 h0 hQ m38 (List.mem_of_getElem? hm38)
   have hpo38:=Zju h0 hQ hm38
   have hl38:x38.length=m38.length:=by rw [ev38,Zd5]
   have hl838:=hok38.1
   refine k_ix i [D.list (List.map rdv x38)] (by first|rfl|omega|(rw [wrap64 _ (by omega) (by omega)];omega)|(rw [wrap64 _ (by omega) (by omega)];split<;>omega)) (Zb hx38) rfl ?_
   have hl38b:(List.map rdv x38).length=m38.length:=by rw [List.length_map,hl38]
   refine⟨Nat,fun k=> [(4,.val (.one (.ptr 4 0))),(8,.val (.one (.ptr 8 0))),(34,.val (.one (.d (.list (List.map rdvs (plcV A Q)))))),(35,int ((List.map rdvs (plcV A Q)).length:Int)),(36,int (i:Int)),(40,.val (.one (.d (.list (List.map rdv x38))))),(41,int ((List.map rdv x38).length:Int)),(42,int (k:Int))],
    fun k=> [(4,.var 129 [.d (.v (.bool z0.s)),.d (.v (.string z0.a)),.d (.v (.string z0.d)),.d (.v (.bool z0.s)),.d (.v (.string z0.a)),.d (.v (.string z0.d)),.d (.v (.bool z0.s)),.d (.v (.string z0.a)),.d (.v (.string z0.d)),.d (.v (.bool z0.s)),.d (.v (.string z0.a)),.d (.v (.string z0.d))]),(8,.var 129 [.d (.v (.bool (cn (foldB (foldB (ptB p26) ((plN A Q).take i).flatten) (m38.take k)).xl).s)),.d (.v (.string (cn (foldB (foldB (ptB p26) ((plN A Q).take i).flatten) (m38.take k)).xl).a)),.d (.v (.string (cn (foldB (foldB (ptB p26) ((plN A Q).take i).flatten) (m38.take k)).xl).d)),.d (.v (.bool (cn (foldB (foldB (ptB p26) ((plN A Q).take i).flatten) (m38.take k)).yl).s)),.d (.v (.string (cn (foldB (foldB (ptB p26) ((plN A Q).take i).flatten) (m38.take k)).yl).a)),.d (.v (.string (cn (foldB (foldB (ptB p26) ((plN A Q).take i).flatten) (m38.take k)).yl).d)),.d (.v (.bool (cn (foldB (foldB (ptB p26) ((plN A Q).take i).flatten) (m38.take k)).xh).s)),.d (.v (.string (cn (foldB (foldB (ptB p26) ((plN A Q).take i).flatten) (m38.take k)).xh).a)),.d (.v (.string (cn (foldB (foldB (ptB p26) ((plN A Q).take i).flatten) (m38.take k)).xh).d)),.d (.v (.bool (cn (foldB (foldB (ptB p26) ((plN A Q).take i).flatten) (m38.take k)).yh).s)),.d (.v (.string (cn (foldB (foldB (ptB p26) ((plN A Q).take i).flatten) (m38.take k)).yh).a)),.d (.v (.string (cn (foldB (foldB (ptB p26) ((plN A Q).take i).flatten) (m38.take k)).yh).d))])],fun k=>k≤m38.length,fun k=>m38.length - k,0,?_,Nat.zero_le _,fun k hs=> ?_⟩
   ·constructor<;>(repeat' (first|exact rfl|exact True.intro|exact⟨_,_,rfl⟩|exact(by decide)|apply And.intro))
    all_goals first|exact congrArg (fun n:Int=>D.v (.int .i64 n)) (by omega)|exact congrArg (fun n:Int=>D.v (.int .i64 n)) (by rw [wrap64 _ (by omega) (by omega)];omega)|(simp;done)
   obtain⟨⟨b1,b2⟩,b3,b4⟩:=ZjW (m38.take k) (foldB (ptB p26) ((plN A Q).take i).flatten) hbi (fun p hp=>hok38.2 p (List.mem_of_mem_take hp))
   refine⟨fun e3=> ?_,fun e3=> ?_⟩
   ·have f43:(k:Int)< ((List.map rdv x38).length:Int):=of_decide_eq_true e3
    refine Zc (l:=x38) (i:=k) (by first|omega|exact Nat.mod_lt _ (by omega)) fun x44 hx44=> ?_
    obtain⟨p44,hp44,ep44⟩:=ZpZ (by rw [← ev38];exact hx44)
    obtain⟨hq441,hq442⟩:=hok38.2 p44 (List.mem_of_getElem? hp44)
    have ea44:x44.1=cn p44.1:=by rw [ep44]
    have eb44:x44.2=cn p44.2:=by rw [ep44]
    have hz441:x44.1.z≤215000000:=by rw [ea44,cn_z];exact hq441
    have hz442:x44.2.z≤215000000:=by rw [eb44,cn_z];exact hq442
    refine k_ix k [D.v (.bool x44.1.s),D.v (.string x44.1.a),D.v (.string x44.1.d),D.v (.bool x44.2.s),D.v (.string x44.2.a),D.v (.string x44.2.d)] (by first|rfl|omega|(rw [wrap64 _ (by omega) (by omega)];omega)|(rw [wrap64 _ (by omega) (by omega)];split<;>omega)) (Zb hx44) rfl ?_
    refine ZuV (x:=cn (foldB (foldB (ptB p26) ((plN A Q).take i).flatten) (m38.take k)).xl) (y:=x44.1) (by simp only [cn_z];omega) (by omega) fun q51 h51 z51=> ?_
    simp only [cn_z] at z51
    simp only [cn_q] at h51
    refine ZuV (x:=cn (foldB (foldB (ptB p26) ((plN A Q).take i).flatten) (m38.take k)).yl) (y:=x44.2) (by simp only [cn_z];omega) (by omega) fun q57 h57 z57=> ?_
    simp only [cn_z] at z57
    simp only [cn_q] at h57
    refine⟨by kernel_rfl,?_⟩
    refine ZuW (x:=cn (foldB (foldB (ptB p26) ((plN A Q).take i).flatten) (m38.take k)).xh) (y:=x44.1) (by simp only [cn_z];omega) (by omega) fun q65 h65 z65=> ?_
    simp only [cn_z] at z65
    simp only [cn_q] at h65
    refine ZuW (x:=cn (foldB (foldB (ptB p26) ((plN A Q).take i).flatten) (m38.take k)).yh) (y:=x44.2) (by simp only [cn_z];omega) (by omega) fun q71 h71 z71=> ?_
    simp only [cn_z] at z71
    simp only [cn_q] at h71
    refine⟨by kernel_rfl,?_⟩
    have hfb:=Zmy (foldB (ptB p26) ((plN A Q).take i).flatten) hp44
    have k51:q51=(foldB (foldB (ptB p26) ((plN A Q).take i).flatten) (m38.take (k+1))).xl:=by rw [hfb,h51,ea44,cn_q];rfl
    have k57:q57=(foldB (foldB (ptB p26) ((plN A Q).take i).flatten) (m38.take (k+1))).yl:=by rw [hfb,h57,eb44,cn_q];rfl
    have k65:q65=(foldB (foldB (ptB p26) ((plN A Q).take i).flatten) (m38.take (k+1))).xh:=by rw [hfb,h65,ea44,cn_q];rfl
    have k71:q71=(foldB (foldB (ptB p26) ((plN A Q).take i).flatten) (m38.take (k+1))).yh:=by rw [hfb,h71,eb44,cn_q];rfl
    refine⟨k+1,by omega,by simp only;omega,?_⟩
    constructor<;>(repeat' (first|exact rfl|exact True.intro|apply And.intro))
    all_goals first
     |exact congrArg (fun q:Rat=>D.v (.bool (cn q).s)) k51
     |exact congrArg (fun q:Rat=>D.v (.bool (cn q).s)) k51.symm
     |exact congrArg (fun q:Rat=>D.v (.string (cn q).a)) k51
     |exact congrArg (fun q:Rat=>D.v (.string (cn q).a)) k51.symm
     |exact congrArg (fun q:Rat=>D.v (.string (cn q).d)) k51
     |exact congrArg (fun q:Rat=>D.v (.string (cn q).d)) k51.symm
     |exact congrArg (fun q:Rat=>D.v (.bool (cn q).s)) k57
     |exact congrArg (fun q:Rat=>D.v (.bool (cn q).s)) k57.symm
     |exact congrArg (fun q:Rat=>D.v (.string (cn q).a)) k57
     |exact congrArg (fun q:Rat=>D.v (.string (cn q).a)) k57.symm
     |exact congrArg (fun q:Rat=>D.v (.string (cn q).d)) k57
     |exact congrArg (fun q:Rat=>D.v (.string (cn q).d)) k57.symm
     |exact congrArg (fun q:Rat=>D.v (.bool (cn q).s)) k65
     |exact congrArg (fun q:Rat=>D.v (.bool (cn q).s)) k65.symm
     |exact congrArg (fun q:Rat=>D.v (.string (cn q).a)) k65
     |exact congrArg (fun q:Rat=>D.v (.string (cn q).a)) k65.symm
     |exact congrArg (fun q:Rat=>D.v (.string (cn q).d)) k65
     |exact congrArg (fun q:Rat=>D.v (.string (cn q).d)) k65.symm
     |exact congrArg (fun q:Rat=>D.v (.bool (cn q).s)) k71
     |exact congrArg (fun q:Rat=>D.v (.bool (cn q).s)) k71.symm
     |exact congrArg (fun q:Rat=>D.v (.string (cn q).a)) k71
     |exact congrArg (fun q:Rat=>D.v (.string (cn q).a)) k71.symm
     |exact congrArg (fun q:Rat=>D.v (.string (cn q).d)) k71
     |exact congrArg (fun q:Rat=>D.v (.string (cn q).d)) k71.symm
     |exact congrArg (fun n:Int=>D.v (.int .i64 n)) (by rw [wrap64 _ (by omega) (by omega)];omega)
     |exact congrArg (fun n:Int=>D.v (.int .i64 n)) (by omega)
   ·have f43:¬ ((k:Int)< ((List.map rdv x38).length:Int)):=of_decide_eq_false e3
    have hro:(foldB (ptB p26) ((plN A Q).take (i+1)).flatten)=foldB (foldB (ptB p26) ((plN A Q).take i).flatten) (m38.take k):=by rw [ZpD _ hm38,show m38.take k=m38 from List.take_of_length_le (by omega)]
    refine⟨i+1,by omega,by simp only;omega,?_⟩
    constructor<;>(repeat' (first|exact rfl|exact True.intro|apply And.intro))
    all_goals first
     |exact congrArg (fun q:Rat=>D.v (.bool (cn q).s)) (congrArg B4.xl hro)
     |exact congrArg (fun q:Rat=>D.v (.bool (cn q).s)) (congrArg B4.xl hro).symm
     |exact congrArg (fun q:Rat=>D.v (.string (cn q).a)) (congrArg B4.xl hro)
     |exact congrArg (fun q:Rat=>D.v (.string (cn q).a)) (congrArg B4.xl hro).symm
     |exact congrArg (fun q:Rat=>D.v (.string (cn q).d)) (congrArg B4.xl hro)
     |exact congrArg (fun q:Rat=>D.v (.string (cn q).d)) (congrArg B4.xl hro).symm
     |exact congrArg (fun q:Rat=>D.v (.bool (cn q).s)) (congrArg B4.yl hro)
     |exact congrArg (fun q:Rat=>D.v (.bool (cn q).s)) (congrArg B4.yl hro).symm
     |exact congrArg (fun q:Rat=>D.v (.string (cn q).a)) (congrArg B4.yl hro)
     |exact congrArg (fun q:Rat=>D.v (.string (cn q).a)) (congrArg B4.yl hro).symm
     |exact congrArg (fun q:Rat=>D.v (.string (cn q).d)) (congrArg B4.yl hro)
     |exact congrArg (fun q:Rat=>D.v (.string (cn q).d)) (congrArg B4.yl hro).symm
     |exact congrArg (fun q:Rat=>D.v (.bool (cn q).s)) (congrArg B4.xh hro)
     |exact congrArg (fun q:Rat=>D.v (.bool (cn q).s)) (congrArg B4.xh hro).symm
     |exact congrArg (fun q:Rat=>D.v (.string (cn q).a)) (congrArg B4.xh hro)
     |exact congrArg (fun q:Rat=>D.v (.string (cn q).a)) (congrArg B4.xh hro).symm
     |exact congrArg (fun q:Rat=>D.v (.string (cn q).d)) (congrArg B4.xh hro)
     |exact congrArg (fun q:Rat=>D.v (.string (cn q).d)) (congrArg B4.xh hro).symm
     |exact congrArg (fun q:Rat=>D.v (.bool (cn q).s)) (congrArg B4.yh hro)
     |exact congrArg (fun q:Rat=>D.v (.bool (cn q).s)) (congrArg B4.yh hro).symm
     |exact congrArg (fun q:Rat=>D.v (.string (cn q).a)) (congrArg B4.yh hro)
     |exact congrArg (fun q:Rat=>D.v (.string (cn q).a)) (congrArg B4.yh hro).symm
     |exact congrArg (fun q:Rat=>D.v (.string (cn q).d)) (congrArg B4.yh hro)
     |exact congrArg (fun q:Rat=>D.v (.string (cn q).d)) (congrArg B4.yh hro).symm
     |exact congrArg (fun n:Int=>D.v (.int .i64 n)) (by rw [wrap64 _ (by omega) (by omega)];omega)
     |exact congrArg (fun n:Int=>D.v (.int .i64 n)) (by omega)
  ·have f37:¬ ((i:Int)< ((List.map rdvs (plcV A Q)).length:Int)):=of_decide_eq_false e2
   refine Eq.trans (b:= .tup [.agg [.d (.v (.bool (cn (foldB (ptB p26) ((plN A Q).take i).flatten).xl).s)),.d (.v (.string (cn (foldB (ptB p26) ((plN A Q).take i).flatten).xl).a)),.d (.v (.string (cn (foldB (ptB p26) ((plN A Q).take i).flatten).xl).d)),.d (.v (.bool (cn (foldB (ptB p26) ((plN A Q).take i).flatten).yl).s)),.d (.v (.string (cn (foldB (ptB p26) ((plN A Q).take i).flatten).yl).a)),.d (.v (.string (cn (foldB (ptB p26) ((plN A Q).take i).flatten).yl).d)),.d (.v (.bool (cn (foldB (ptB p26) ((plN A Q).take i).flatten).xh).s)),.d (.v (.string (cn (foldB (ptB p26) ((plN A Q).take i).flatten).xh).a)),.d (.v (.string (cn (foldB (ptB p26) ((plN A Q).take i).flatten).xh).d)),.d (.v (.bool (cn (foldB (ptB p26) ((plN A Q).take i).flatten).yh).s)),.d (.v (.string (cn (foldB (ptB p26) ((plN A Q).take i).flatten).yh).a)),.d (.v (.string (cn (foldB (ptB p26) ((plN A Q).take i).flatten).yh).d))],.one (.d (.v (.int .i64 (0))))]) ?_ rfl
   have hfin:arB A Q=(foldB (ptB p26) ((plN A Q).take i).flatten):=by unfold arB;rw [Zge hpp,List.take_of_length_le (by rw [Zg3];omega)]
   rw [Zgx h0,h0,hfin]
   all_goals rfl
theorem Zlc {A:ArmV} {Q:List RV} (hA:A.ok) (hQ:∀ x,x∈Q→x.z≤1048576) (k:∀ n,n=hasE A (Q.length:Int)→K (.tup [.agg [.d (.v (.bool ((arV A Q).1).s)),.d (.v (.string ((arV A Q).1).a)),.d (.v (.string ((arV A Q).1).d)),.d (.v (.bool ((arV A Q).2.1).s)),.d (.v (.string ((arV A Q).2.1).a)),.d (.v (.string ((arV A Q).2.1).d)),.d (.v (.bool ((arV A Q).2.2.1).s)),.d (.v (.string ((arV A Q).2.2.1).a)),.d (.v (.string ((arV A Q).2.2.1).d)),.d (.v (.bool ((arV A Q).2.2.2).s)),.d (.v (.string ((arV A Q).2.2.2).a)),.d (.v (.string ((arV A Q).2.2.2).d))],.one (.d (.v (.int .i64 n)))])):Ask 77 [.val (.agg [.d (.v (.string A.name)),.d (.v (.bool A.bx.s)),.d (.v (.string A.bx.a)),.d (.v (.string A.bx.d)),.d (.v (.bool A.by'.s)),.d (.v (.string A.by'.a)),.d (.v (.string A.by'.d)),.d (.v (.bool (A.bh))),.d (.v (.bool A.bt.s)),.d (.v (.string A.bt.a)),.d (.v (.string A.bt.d)),.d (.list (List.map lk A.links))]),.val (.one (.d (.list (List.map rd Q))))] K:=use (Zkt A Q hA hQ) rfl (k _ rfl)
theorem Zhy (a b c d:RV):Spec Tryz.prog Tab 79 [box a b c d] (.val (.one (.d (.list ([[D.v (.bool a.s),D.v (.string a.a),D.v (.string a.d),D.v (.bool b.s),D.v (.string b.a),D.v (.string b.d)], [D.v (.bool c.s),D.v (.string c.a),D.v (.string c.d),D.v (.bool b.s),D.v (.string b.a),D.v (.string b.d)], [D.v (.bool c.s),D.v (.string c.a),D.v (.string c.d),D.v (.bool d.s),D.v (.string d.a),D.v (.string d.d)], [D.v (.bool a.s),D.v (.string a.a),D.v (.string a.d),D.v (.bool d.s),D.v (.string d.a),D.v (.string d.d)]]))))):=by
 refine Za Tryz.func79 rfl rfl Tryz.ntmps79 rfl (by kernel_rfl) rfl rfl ?_
 refine Eq.trans (b:= .val (.one (.d (.list ([[D.v (.bool a.s),D.v (.string a.a),D.v (.string a.d),D.v (.bool b.s),D.v (.string b.a),D.v (.string b.d)], [D.v (.bool c.s),D.v (.string c.a),D.v (.string c.d),D.v (.bool b.s),D.v (.string b.a),D.v (.string b.d)], [D.v (.bool c.s),D.v (.string c.a),D.v (.string c.d),D.v (.bool d.s),D.v (.string d.a),D.v (.string d.d)], [D.v (.bool a.s),D.v (.string a.a),D.v (.string a.d),D.v (.bool d.s),D.v (.string d.a),D.v (.string d.d)]]))))) ?_ rfl
 rfl
theorem Zmr {a b c d:RV} (k:K (.val (.one (.d (.list (List.map rdv [(a,b),(c,b),(c,d),(a,d)])))))):Ask 79 [box a b c d] K:=use (Zhy a b c d) rfl k
theorem ZpJ (l:List (RV×RV)) (hn:l.length≤1099511627776):Spec Tryz.prog Tab 78 [.val (.one (.d (.list (List.map rdv l)))),.val (.one (.d (.list (List.map rdv l))))] (bool true):=by
 have hLl:(List.map rdv l).length=l.length:=List.length_map ..
 refine Za Tryz.func78 rfl rfl Tryz.ntmps78 rfl (by kernel_rfl) rfl rfl ?_
 refine⟨fun e1=> ?_,fun e1=> ?_⟩
 ·have f10:((List.map rdv l).length:Int)≠((List.map rdv l).length:Int):=Zv e1
  exfalso
  exact f10 rfl
 ·have f10:¬ (((List.map rdv l).length:Int)≠((List.map rdv l).length:Int)):=fun hh=>hh (Zw e1)
  refine⟨Nat,fun i=> [(0,.val (.one (.d (.list (List.map rdv l))))),(1,.val (.one (.d (.list (List.map rdv l))))),(12,int ((List.map rdv l).length:Int)),(13,int (i:Int))],
   fun i=> [],fun i=>i≤l.length,fun i=>l.length - i,0,?_,Nat.zero_le _,fun i hs=> ?_⟩
  ·constructor<;>(repeat' (first|exact rfl|exact True.intro|exact⟨_,_,rfl⟩|exact(by decide)|apply And.intro))
   all_goals first|exact congrArg (fun n:Int=>D.v (.int .i64 n)) (by omega)|exact congrArg (fun n:Int=>D.v (.int .i64 n)) (by rw [wrap64 _ (by omega) (by omega)];omega)|(simp;done)
  refine⟨fun e2=> ?_,fun e2=> ?_⟩
  ·have f14:(i:Int)< ((List.map rdv l).length:Int):=of_decide_eq_true e2
   refine Zc (l:=l) (i:=i) (by first|omega|exact Nat.mod_lt _ (by omega)) fun x18 hx18=> ?_
   refine k_ix i [D.v (.bool x18.1.s),D.v (.string x18.1.a),D.v (.string x18.1.d),D.v (.bool x18.2.s),D.v (.string x18.2.a),D.v (.string x18.2.d)] (by first|rfl|omega|(rw [wrap64 _ (by omega) (by omega)];omega)|(rw [wrap64 _ (by omega) (by omega)];split<;>omega)) (Zb hx18) rfl ?_
   refine k_ix i [D.v (.bool x18.1.s),D.v (.string x18.1.a),D.v (.string x18.1.d),D.v (.bool x18.2.s),D.v (.string x18.2.a),D.v (.string x18.2.d)] (by first|rfl|omega|(rw [wrap64 _ (by omega) (by omega)];omega)|(rw [wrap64 _ (by omega) (by omega)];split<;>omega)) (Zb hx18) rfl ?_
   refine ZbQ ⟨rfl,rfl⟩ ?_
   refine⟨by kernel_rfl,?_⟩
   refine⟨fun e=>absurd e (by decide),fun _=> ?_⟩
   refine⟨i+1,by omega,by simp only;omega,?_⟩
   constructor<;>(repeat' (first|exact rfl|exact True.intro|apply And.intro))
   all_goals first
    |exact congrArg (fun n:Int=>D.v (.int .i64 n)) (by rw [wrap64 _ (by omega) (by omega)];omega)
    |exact congrArg (fun n:Int=>D.v (.int .i64 n)) (by omega)
  ·have f14:¬ ((i:Int)< ((List.map rdv l).length:Int)):=of_decide_eq_false e2
   refine Eq.trans (b:=bool true) ?_ rfl
   rfl
theorem ZwI {u v:List (List D)} (l:List (RV×RV)) (hu:u=List.map rdv l) (hv:v=List.map rdv l) (hn:l.length≤1099511627776) (k:K (bool true)):Ask 78 [.val (.one (.d (.list u))),.val (.one (.d (.list v)))] K:=by
 subst hu hv;exact use (ZpJ l hn) rfl k
theorem ZrA (p:Rat×Rat) (hp:qs p.1≤215000000∧qs p.2≤215000000):Spec Tryz.prog Tab 175 [pair (cn p.1) (cn p.2),q3p p.1 p.2] (bool true):=by
 refine Za Tryz.func175 rfl rfl Tryz.ntmps175 rfl (by kernel_rfl) rfl rfl ?_
 refine Zpr (p:=p.1) (q:=p.2) (by omega) (by omega) ?_
 refine Za7 ⟨rfl,rfl⟩ ?_
 refine⟨by kernel_rfl,?_⟩
 refine Eq.trans (b:=bool true) ?_ rfl
 rfl
theorem ZxS {v:RV×RV} {p:Rat×Rat} (hv:v=(cn p.1,cn p.2)) (hp:qs p.1≤215000000∧qs p.2≤215000000) (k:K (bool true)):Ask 175 [pair v.1 v.2,q3p p.1 p.2] K:=by
 subst hv;exact use (ZrA p hp) rfl k
theorem ZpK (l:List (Rat×Rat)) (hok:okP l):Spec Tryz.prog Tab 174 [.val (.one (.d (.list (List.map rdv (cvl l))))),.val (.one (.d (.list (List.map rqP l)))),fv 175] (bool true):=by
 have hLv:(List.map rdv (cvl l)).length=l.length:=by rw [List.length_map,Zd5]
 have hLl:(List.map rqP l).length=l.length:=List.length_map ..
 have hcl:=Zd5 l
 have hl8:=hok.1
 refine Za Tryz.func174 rfl rfl Tryz.ntmps174 rfl (by kernel_rfl) rfl rfl ?_
 refine⟨fun e1=> ?_,fun e1=> ?_⟩
 ·have f14:((List.map rdv (cvl l)).length:Int)≠((List.map rqP l).length:Int):=Zv e1
  exfalso
  omega
 ·have f14:¬ (((List.map rdv (cvl l)).length:Int)≠((List.map rqP l).length:Int)):=fun hh=>hh (Zw e1)
  refine⟨Nat,fun i=> [(1,.val (.one (.d (.list (List.map rqP l))))),(2,fv 175),(15,.val (.one (.d (.list (List.map rdv (cvl l)))))),(16,int ((List.map rdv (cvl l)).length:Int)),(17,int (i:Int))],
   fun i=> [],fun i=>i≤l.length,fun i=>l.length - i,0,?_,Nat.zero_le _,fun i hs=> ?_⟩
  ·constructor<;>(repeat' (first|exact rfl|exact True.intro|exact⟨_,_,rfl⟩|exact(by decide)|apply And.intro))
   all_goals first|exact congrArg (fun n:Int=>D.v (.int .i64 n)) (by omega)|exact congrArg (fun n:Int=>D.v (.int .i64 n)) (by rw [wrap64 _ (by omega) (by omega)];omega)|(simp;done)
  refine⟨fun e2=> ?_,fun e2=> ?_⟩
  ·have f18:(i:Int)< ((List.map rdv (cvl l)).length:Int):=of_decide_eq_true e2
   refine Zc (l:=(cvl l)) (i:=i) (by first|omega|exact Nat.mod_lt _ (by omega)) fun x20 hx20=> ?_
   refine k_ix i [D.v (.bool x20.1.s),D.v (.string x20.1.a),D.v (.string x20.1.d),D.v (.bool x20.2.s),D.v (.string x20.2.a),D.v (.string x20.2.d)] (by first|rfl|omega|(rw [wrap64 _ (by omega) (by omega)];omega)|(rw [wrap64 _ (by omega) (by omega)];split<;>omega)) (Zb hx20) rfl ?_
   refine Zc (l:=l) (i:=i) (by first|omega|exact Nat.mod_lt _ (by omega)) fun x24 hx24=> ?_
   refine k_ix i [D.v (.bool (decide (x24.1.num< 0))),D.list (W (w32 x24.1.num.natAbs)),D.list (W (w32 x24.1.den)),D.v (.bool (decide (x24.2.num< 0))),D.list (W (w32 x24.2.num.natAbs)),D.list (W (w32 x24.2.den))] (by first|rfl|omega|(rw [wrap64 _ (by omega) (by omega)];omega)|(rw [wrap64 _ (by omega) (by omega)];split<;>omega)) (Zb hx24) rfl ?_
   obtain⟨p,hp,ep⟩:=ZpZ hx20
   obtain rfl:=Option.some.inj (hp.symm.trans hx24)
   refine ZxS (v:=x20) (p:=p) ep (hok.2 p (List.mem_of_getElem? hp)) ?_
   refine⟨fun e=>absurd e (by decide),fun _=> ?_⟩
   refine⟨i+1,by omega,by simp only;omega,?_⟩
   constructor<;>(repeat' (first|exact rfl|exact True.intro|apply And.intro))
   all_goals first
    |exact congrArg (fun n:Int=>D.v (.int .i64 n)) (by rw [wrap64 _ (by omega) (by omega)];omega)
    |exact congrArg (fun n:Int=>D.v (.int .i64 n)) (by omega)
  ·have f18:¬ ((i:Int)< ((List.map rdv (cvl l)).length:Int)):=of_decide_eq_false e2
   refine Eq.trans (b:=bool true) ?_ rfl
   rfl
theorem points_spec (l:List (Rat×Rat)) (hok:okP l):Spec Tryz.prog Tab 83 [.val (.one (.d (.list (List.map rdv (cvl l))))),.val (.one (.d (.list (List.map rqP l))))] (bool true):=by
 refine Za Tryz.func83 rfl rfl Tryz.ntmps83 rfl (by kernel_rfl) rfl rfl ?_
 refine use (ZpK l hok) rfl ?_
 refine Eq.trans (b:=bool true) ?_ rfl
 rfl
theorem Zsd {v:List (RV×RV)} {l:List (Rat×Rat)} (hv:v=cvl l) (hok:okP l) (k:K (bool true)):Ask 83 [.val (.one (.d (.list (List.map rdv v)))),.val (.one (.d (.list (List.map rqP l))))] K:=by
 subst hv;exact use (points_spec l hok) rfl k
theorem ZpL (l:List (List (Rat×Rat))) (hn:l.length≤1048576) (hok:∀ a,a∈l→okP a):Spec Tryz.prog Tab 82 [.val (.one (.d (.list (List.map rdvs (List.map cvl l))))),.val (.one (.d (.list (List.map rqps l)))),fv 83] (bool true):=by
 have hLv:(List.map rdvs (List.map cvl l)).length=l.length:=by rw [List.length_map,List.length_map]
 have hLl:(List.map rqps l).length=l.length:=List.length_map ..
 have hcl:(List.map cvl l).length=l.length:=List.length_map ..
 refine Za Tryz.func82 rfl rfl Tryz.ntmps82 rfl (by kernel_rfl) rfl rfl ?_
 refine⟨fun e1=> ?_,fun e1=> ?_⟩
 ·have f14:((List.map rdvs (List.map cvl l)).length:Int)≠((List.map rqps l).length:Int):=Zv e1
  exfalso
  omega
 ·have f14:¬ (((List.map rdvs (List.map cvl l)).length:Int)≠((List.map rqps l).length:Int)):=fun hh=>hh (Zw e1)
  refine⟨Nat,fun i=> [(1,.val (.one (.d (.list (List.map rqps l))))),(2,fv 83),(15,.val (.one (.d (.list (List.map rdvs (List.map cvl l)))))),(16,int ((List.map rdvs (List.map cvl l)).length:Int)),(17,int (i:Int))],
   fun i=> [],fun i=>i≤l.length,fun i=>l.length - i,0,?_,Nat.zero_le _,fun i hs=> ?_⟩
  ·constructor<;>(repeat' (first|exact rfl|exact True.intro|exact⟨_,_,rfl⟩|exact(by decide)|apply And.intro))
   all_goals first|exact congrArg (fun n:Int=>D.v (.int .i64 n)) (by omega)|exact congrArg (fun n:Int=>D.v (.int .i64 n)) (by rw [wrap64 _ (by omega) (by omega)];omega)|(simp;done)
  refine⟨fun e2=> ?_,fun e2=> ?_⟩
  ·have f18:(i:Int)< ((List.map rdvs (List.map cvl l)).length:Int):=of_decide_eq_true e2
   refine Zc (l:=(List.map cvl l)) (i:=i) (by first|omega|exact Nat.mod_lt _ (by omega)) fun x20 hx20=> ?_
   refine k_ix i [D.list (List.map rdv x20)] (by first|rfl|omega|(rw [wrap64 _ (by omega) (by omega)];omega)|(rw [wrap64 _ (by omega) (by omega)];split<;>omega)) (Zb hx20) rfl ?_
   refine Zc (l:=l) (i:=i) (by first|omega|exact Nat.mod_lt _ (by omega)) fun x24 hx24=> ?_
   refine k_ix i [D.list (List.map rqP x24)] (by first|rfl|omega|(rw [wrap64 _ (by omega) (by omega)];omega)|(rw [wrap64 _ (by omega) (by omega)];split<;>omega)) (Zb hx24) rfl ?_
   have ev:x20=cvl x24:=by
    rw [List.getElem?_map,hx24] at hx20;exact(Option.some.inj hx20).symm
   refine Zsd ev (hok _ (List.mem_of_getElem? hx24)) ?_
   refine⟨fun e=>absurd e (by decide),fun _=> ?_⟩
   refine⟨i+1,by omega,by simp only;omega,?_⟩
   constructor<;>(repeat' (first|exact rfl|exact True.intro|apply And.intro))
   all_goals first
    |exact congrArg (fun n:Int=>D.v (.int .i64 n)) (by rw [wrap64 _ (by omega) (by omega)];omega)
    |exact congrArg (fun n:Int=>D.v (.int .i64 n)) (by omega)
  ·have f18:¬ ((i:Int)< ((List.map rdvs (List.map cvl l)).length:Int)):=of_decide_eq_false e2
   refine Eq.trans (b:=bool true) ?_ rfl
   rfl
theorem ZwJ {u:List (List (RV×RV))} {l:List (List (Rat×Rat))} (hu:u=List.map cvl l) (hn:l.length≤1048576) (hok:∀ a,a∈l→okP a) (k:K (bool true)):Ask 82 [.val (.one (.d (.list (List.map rdvs u)))),.val (.one (.d (.list (List.map rqps l)))),fv 83] K:=by
 subst hu;exact use (ZpL l hn hok) rfl k
theorem ZqH (n:Nat) (h0:0< n) (hn:n≤1048576):SpecR Tryz.prog Tab 176 [.val (.one (.d (.v (.slice none 0 0)))),int (n:Int)] 104 6 ([]):=by
 have hwn:IntKind.i64.wrap ((n:Int) - 0)=(n:Int):=by rw [Int.sub_zero];exact wrap64 _ (by omega) (by omega)
 refine Zlh Tryz.func176 rfl rfl Tryz.ntmps176 rfl (by kernel_rfl) rfl rfl ?_
 refine⟨fun e1=> ?_,fun e1=> ?_⟩
 ·have f6:(n:Int)< 0:=of_decide_eq_true e1
  exfalso
  omega
 ·have f6:¬ ((n:Int)< 0):=of_decide_eq_false e1
  refine⟨fun e2=> ?_,fun e2=> ?_⟩
  ·have f16:IntKind.i64.wrap ((n:Int) - 0) >0:=of_decide_eq_true e2
   refine⟨_,⟨rfl,rfl⟩,?_⟩
   refine⟨⟨⟨_,Zxj⟩,by show 0< IntKind.i64.wrap ((n:Int) - 0);rw [hwn];omega,by show IntKind.i64.wrap ((n:Int) - 0)*112≤_;rw [hwn];omega,by show IntKind.i64.wrap ((n:Int) - 0)≤_;rw [hwn];omega⟩,?_⟩
   refine⟨⟨by first|omega|decide,by first|omega|(simp;omega)|simp⟩,?_⟩
   exact rfl
  ·have f16:¬ (IntKind.i64.wrap ((n:Int) - 0) >0):=of_decide_eq_false e2
   exfalso
   rw [hwn] at f16;omega
theorem ZwV (n:Nat) {y:Int} (hy:y=(n:Int)) (h0:0< n) (hn:n≤1048576) (k:K (.new 104 6 [])):Ask 176 [.val (.one (.d (.v (.slice none 0 0)))),int y] K:=by
 subst hy;exact useN (ZqH n h0 hn) k
theorem Zkr (L:List (List (Rat×Rat))) (h0:0< L.flatten.length) (hfl:L.flatten.length≤1048576) (hn:L.length≤1048576):Spec Tryz.prog Tab 84 [.val (.one (.d (.list (List.map rqps L))))] (.val (.one (.d (.list (List.map rqP L.flatten))))):=by
 have hLl:(List.map rqps L).length=L.length:=List.length_map ..
 refine Zt0 [24] Tryz.func84 rfl rfl Tryz.ntmps84 rfl (by kernel_rfl) rfl rfl ?_
 refine⟨Nat,fun i=> [(0,.val (.one (.d (.list (List.map rqps L))))),(3,int ((L.take i).flatten.length:Int)),(9,.val (.one (.d (.list (List.map rqps L))))),(10,int ((List.map rqps L).length:Int)),(11,int (i:Int))],
  fun i=> [],fun i=>i≤L.length,fun i=>L.length - i,0,?_,Nat.zero_le _,fun i hs=> ?_⟩
 ·constructor<;>(repeat' (first|exact rfl|exact True.intro|exact⟨_,_,rfl⟩|exact(by decide)|apply And.intro))
  all_goals first|exact congrArg (fun n:Int=>D.v (.int .i64 n)) (by omega)|exact congrArg (fun n:Int=>D.v (.int .i64 n)) (by rw [wrap64 _ (by omega) (by omega)];omega)|(simp;done)
 refine⟨fun e1=> ?_,fun e1=> ?_⟩
 ·have f12:(i:Int)< ((List.map rqps L).length:Int):=of_decide_eq_true e1
  refine Zc (l:=L) (i:=i) (by first|omega|exact Nat.mod_lt _ (by omega)) fun x13 hx13=> ?_
  have hmx13:(List.map rqP x13).length=x13.length:=List.length_map ..
  have hfx13:=Zli hx13
  have hgx13:=ZjX L (i+1)
  refine k_ix i [D.list (List.map rqP x13)] (by first|rfl|omega|(rw [wrap64 _ (by omega) (by omega)];omega)|(rw [wrap64 _ (by omega) (by omega)];split<;>omega)) (Zb hx13) rfl ?_
  refine⟨fun e2=> ?_,fun e2=> ?_⟩
  ·have f20:IntKind.i64.wrap (((L.take i).flatten.length:Int)+((List.map rqP x13).length:Int))< 0:=of_decide_eq_true e2
   exfalso
   rw [wrap64 _ (by omega) (by omega)] at f20;omega
  ·have f20:¬ (IntKind.i64.wrap (((L.take i).flatten.length:Int)+((List.map rqP x13).length:Int))< 0):=of_decide_eq_false e2
   refine⟨i+1,by omega,by simp only;omega,?_⟩
   constructor<;>(repeat' (first|exact rfl|exact True.intro|apply And.intro))
   all_goals first
    |exact congrArg (fun n:Int=>D.v (.int .i64 n)) (by rw [wrap64 _ (by omega) (by omega)];omega)
    |exact congrArg (fun n:Int=>D.v (.int .i64 n)) (by rw [wrap64 _ (by omega) (by omega)];omega)
    |exact congrArg (fun n:Int=>D.v (.int .i64 n)) (by omega)
 ·have f12:¬ ((i:Int)< ((List.map rqps L).length:Int)):=of_decide_eq_false e1
  refine ZwV (L.flatten.length) (y:=((L.take i).flatten.length:Int)) (by rw [show i=L.length by omega,List.take_length]) h0 hfl ?_
  refine⟨Nat,fun i=> [(6,.val (.one (.row 24 0))),(25,.val (.one (.d (.list (List.map rqps L))))),(26,int ((List.map rqps L).length:Int)),(27,int (i:Int))],
   fun i=> [(24,.row 104 6 0 (List.map rqP ((L.take i).flatten)) true)],fun i=>i≤L.length,fun i=>L.length - i,0,?_,Nat.zero_le _,fun i hs=> ?_⟩
  ·constructor<;>(repeat' (first|exact rfl|exact True.intro|exact⟨_,_,rfl⟩|exact(by decide)|apply And.intro))
   all_goals first|exact congrArg (fun n:Int=>D.v (.int .i64 n)) (by omega)|exact congrArg (fun n:Int=>D.v (.int .i64 n)) (by rw [wrap64 _ (by omega) (by omega)];omega)|(simp;done)
  have hT:(List.map rqP (L.take i).flatten).length=(L.take i).flatten.length:=List.length_map ..
  have hg0:=ZjX L i
  refine⟨fun e3=> ?_,fun e3=> ?_⟩
  ·have f28:(i:Int)< ((List.map rqps L).length:Int):=of_decide_eq_true e3
   refine Zc (l:=L) (i:=i) (by first|omega|exact Nat.mod_lt _ (by omega)) fun x29 hx29=> ?_
   have hmx29:(List.map rqP x29).length=x29.length:=List.length_map ..
   have hfx29:=Zli hx29
   have hgx29:=ZjX L (i+1)
   refine k_ix i [D.list (List.map rqP x29)] (by first|rfl|omega|(rw [wrap64 _ (by omega) (by omega)];omega)|(rw [wrap64 _ (by omega) (by omega)];split<;>omega)) (Zb hx29) rfl ?_
   refine⟨⟨(Zbk fun _=>rfl),(by show ((List.map rqP ((L.take i).flatten)).length+(List.map rqP x29).length)*112≤_;omega),(by show ((List.map rqP ((L.take i).flatten)).length+(List.map rqP x29).length)≤_;omega)⟩,?_⟩
   refine⟨i+1,by omega,by simp only;omega,?_⟩
   constructor<;>(repeat' (first|exact rfl|exact True.intro|apply And.intro))
   all_goals first
    |exact(Ziw rqP hx29).symm
    |exact Ziw rqP hx29
    |exact congrArg (fun n:Int=>D.v (.int .i64 n)) (by rw [wrap64 _ (by omega) (by omega)];omega)
    |exact congrArg (fun n:Int=>D.v (.int .i64 n)) (by omega)
  ·have f28:¬ ((i:Int)< ((List.map rqps L).length:Int)):=of_decide_eq_false e3
   refine Eq.trans (b:= .val (.one (.d (.list (List.map rqP ((L.take i).flatten)))))) ?_ rfl
   rw [List.take_of_length_le (by omega)]
theorem Zsr {L:List (List (Rat×Rat))} (h0:0< L.flatten.length) (hfl:L.flatten.length≤1048576) (hn:L.length≤1048576) (k:K (.val (.one (.d (.list (List.map rqP L.flatten)))))):Ask 84 [.val (.one (.d (.list (List.map rqps L))))] K:=use (Zkr L h0 hfl hn) rfl k
def selF (g:Rat×Rat→Rat×Rat→Rat×Rat) (m:Rat×Rat) (l:List (Rat×Rat)):Rat×Rat:=l.foldl g m
def gXn (m p:Rat×Rat):Rat×Rat:=if p.1< m.1 then p else m
def gYn (m p:Rat×Rat):Rat×Rat:=if p.2< m.2 then p else m
def gXx (m p:Rat×Rat):Rat×Rat:=if m.1< p.1 then p else m
def gYx (m p:Rat×Rat):Rat×Rat:=if m.2< p.2 then p else m
theorem ZaF (g:Rat×Rat→Rat×Rat→Rat×Rat) (m:Rat×Rat) {l:List (Rat×Rat)} {i:Nat} {p:Rat×Rat} (h:l[i]? =some p):selF g m (l.take (i+1))=g (selF g m (l.take i)) p:=by
 rw [List.take_add_one,h];simp [selF]
theorem Zew {g:Rat×Rat→Rat×Rat→Rat×Rat} {l:List (Rat×Rat)} {p:Rat×Rat} (hg:g p p=p) (h:l[0]? =some p):selF g p (l.take 1)=p:=by
 rw [ZaF g p h];exact hg
theorem Zlg (p:Rat×Rat):gXn p p=p∧gYn p p=p∧gXx p p=p∧gYx p p=p:=by
 unfold gXn gYn gXx gYx
 refine⟨?_,?_,?_,?_⟩<;>split<;>rfl
theorem Ziv (m p:Rat×Rat):(gXn m p=m∨gXn m p=p)∧(gYn m p=m∨gYn m p=p)∧(gXx m p=m∨gXx m p=p)∧(gYx m p=m∨gYx m p=p):=by
 unfold gXn gYn gXx gYx
 refine⟨?_,?_,?_,?_⟩<;>split<;>simp
theorem Zdh {g:Rat×Rat→Rat×Rat→Rat×Rat} (hg:∀ m p,g m p=m∨g m p=p) {P:Rat×Rat→Prop}:∀ (l:List (Rat×Rat)) (m:Rat×Rat),P m→(∀ p,p∈l→P p)→P (selF g m l)
 | [],m,h,_=>h
 |p :: l,m,h,k=>by
  refine Zdh hg l (g m p) ?_ (fun q hq=>k q (List.mem_cons_of_mem _ hq))
  rcases hg m p with e|e
  ·rw [e];exact h
  ·rw [e];exact k p (by simp)
theorem Ztn:∀ (l:List (Rat×Rat)) (m:Rat×Rat) (b:B4),m.1=b.xl→(selF gXn m l).1=(foldB b l).xl
 | [],m,b,h=>h
 |p :: l,m,b,h=>Ztn l (gXn m p) (addB b p) (by
  show (if p.1< m.1 then p else m).1=minQ b.xl p.1
  rw [← Zgk m.1 h];split<;>rfl)
theorem Ztl:∀ (l:List (Rat×Rat)) (m:Rat×Rat) (b:B4),m.2=b.yl→(selF gYn m l).2=(foldB b l).yl
 | [],m,b,h=>h
 |p :: l,m,b,h=>Ztl l (gYn m p) (addB b p) (by
  show (if p.2< m.2 then p else m).2=minQ b.yl p.2
  rw [← Zgk m.2 h];split<;>rfl)
theorem Ztm:∀ (l:List (Rat×Rat)) (m:Rat×Rat) (b:B4),m.1=b.xh→(selF gXx m l).1=(foldB b l).xh
 | [],m,b,h=>h
 |p :: l,m,b,h=>Ztm l (gXx m p) (addB b p) (by
  show (if m.1< p.1 then p else m).1=maxQ b.xh p.1
  rw [← Zib m.1 h];split<;>rfl)
theorem Ztk:∀ (l:List (Rat×Rat)) (m:Rat×Rat) (b:B4),m.2=b.yh→(selF gYx m l).2=(foldB b l).yh
 | [],m,b,h=>h
 |p :: l,m,b,h=>Ztk l (gYx m p) (addB b p) (by
  show (if m.2< p.2 then p else m).2=maxQ b.yh p.2
  rw [← Zib m.2 h];split<;>rfl)
theorem ZsR (p q:Rat×Rat) (hp:qs p.1≤215000000∧qs p.2≤215000000) (hq:qs q.1≤215000000∧qs q.2≤215000000):Spec Tryz.prog Tab 85 [q3p p.1 p.2,q3p q.1 q.2] (int (sgnQ (p.1 - q.1))):=by
 refine Za Tryz.func85 rfl rfl Tryz.ntmps85 rfl (by kernel_rfl) rfl rfl ?_
 refine Zbo (p:=p.1) (q:=q.1) (by omega) (by omega) fun n9 h9=> ?_
 refine Eq.trans (b:=int n9) ?_ rfl
 rw [h9]
theorem ZwN {p q:Rat×Rat} (hp:qs p.1≤215000000∧qs p.2≤215000000) (hq:qs q.1≤215000000∧qs q.2≤215000000) (k:∀ n,n=sgnQ (p.1 - q.1)→K (int n)):Ask 85 [q3p p.1 p.2,q3p q.1 q.2] K:=use (ZsR p q hp hq) rfl (k _ rfl)
theorem ZsQ (p q:Rat×Rat) (hp:qs p.1≤215000000∧qs p.2≤215000000) (hq:qs q.1≤215000000∧qs q.2≤215000000):Spec Tryz.prog Tab 86 [q3p p.1 p.2,q3p q.1 q.2] (int (sgnQ (p.2 - q.2))):=by
 refine Za Tryz.func86 rfl rfl Tryz.ntmps86 rfl (by kernel_rfl) rfl rfl ?_
 refine Zbo (p:=p.2) (q:=q.2) (by omega) (by omega) fun n9 h9=> ?_
 refine Eq.trans (b:=int n9) ?_ rfl
 rw [h9]
theorem ZwM {p q:Rat×Rat} (hp:qs p.1≤215000000∧qs p.2≤215000000) (hq:qs q.1≤215000000∧qs q.2≤215000000) (k:∀ n,n=sgnQ (p.2 - q.2)→K (int n)):Ask 86 [q3p p.1 p.2,q3p q.1 q.2] K:=use (ZsQ p q hp hq) rfl (k _ rfl)
set_option maxHeartbeats 2000000 in
theorem ZsB (l:List (Rat×Rat)) (h0:0< l.length) (hn:l.length≤1048576) (hz:∀ p,p∈l→qs p.1≤215000000∧qs p.2≤215000000):Spec Tryz.prog Tab 87 [.val (.one (.d (.list (List.map rqP l)))),fv 85] (q3p ((selF gXn (ptQ l 0) l).1) ((selF gXn (ptQ l 0) l).2)):=by
 have hLl:(List.map rqP l).length=l.length:=List.length_map ..
 refine Za Tryz.func87 rfl rfl Tryz.ntmps87 rfl (by kernel_rfl) rfl rfl ?_
 refine⟨fun e1=> ?_,fun e1=> ?_⟩
 ·have f9:((List.map rqP l).length:Int)< 1:=of_decide_eq_true e1
  exfalso
  omega
 ·have f9:¬ (((List.map rqP l).length:Int)< 1):=of_decide_eq_false e1
  refine Zc (l:=l) (i:=0) (by first|omega|exact Nat.mod_lt _ (by omega)) fun x12 hx12=> ?_
  refine k_ix 0 [D.v (.bool (decide (x12.1.num< 0))),D.list (W (w32 x12.1.num.natAbs)),D.list (W (w32 x12.1.den)),D.v (.bool (decide (x12.2.num< 0))),D.list (W (w32 x12.2.num.natAbs)),D.list (W (w32 x12.2.den))] (by first|rfl|omega|(rw [wrap64 _ (by omega) (by omega)];omega)|(rw [wrap64 _ (by omega) (by omega)];split<;>omega)) (Zb hx12) rfl ?_
  have ho1:=Zew (Zlg x12).1 hx12
  refine⟨Nat,fun i=> [(0,.val (.one (.d (.list (List.map rqP l))))),(1,fv 85),(4,.val (.one (.ptr 4 0))),(5,.val (.one (.ptr 5 0))),(6,int (i:Int))],
   fun i=> [(4,.var 104 [.d (.v (.bool false)),.d (.v (.slice none 0 0)),.d (.v (.slice none 0 0)),.d (.v (.bool false)),.d (.v (.slice none 0 0)),.d (.v (.slice none 0 0))]),(5,.var 104 [.d (.v (.bool (decide (((selF gXn x12 (l.take i)).1).num< 0)))),.d (.list (W (w32 ((selF gXn x12 (l.take i)).1).num.natAbs))),.d (.list (W (w32 ((selF gXn x12 (l.take i)).1).den))),.d (.v (.bool (decide (((selF gXn x12 (l.take i)).2).num< 0)))),.d (.list (W (w32 ((selF gXn x12 (l.take i)).2).num.natAbs))),.d (.list (W (w32 ((selF gXn x12 (l.take i)).2).den)))])],fun i=>1≤i∧i≤l.length,fun i=>l.length - i,1,?_,⟨Nat.le_refl _,by omega⟩,fun i hs=> ?_⟩
  ·constructor<;>(repeat' (first|exact rfl|exact True.intro|exact⟨_,_,rfl⟩|exact(by decide)|apply And.intro))
   all_goals first
    |exact congrArg (fun q:Rat=>D.v (.bool (decide (q.num< 0)))) (congrArg Prod.fst ho1)
    |exact congrArg (fun q:Rat=>D.v (.bool (decide (q.num< 0)))) (congrArg Prod.fst ho1).symm
    |exact congrArg (fun q:Rat=>D.list (W (w32 q.num.natAbs))) (congrArg Prod.fst ho1)
    |exact congrArg (fun q:Rat=>D.list (W (w32 q.num.natAbs))) (congrArg Prod.fst ho1).symm
    |exact congrArg (fun q:Rat=>D.list (W (w32 q.den))) (congrArg Prod.fst ho1)
    |exact congrArg (fun q:Rat=>D.list (W (w32 q.den))) (congrArg Prod.fst ho1).symm
    |exact congrArg (fun q:Rat=>D.v (.bool (decide (q.num< 0)))) (congrArg Prod.snd ho1)
    |exact congrArg (fun q:Rat=>D.v (.bool (decide (q.num< 0)))) (congrArg Prod.snd ho1).symm
    |exact congrArg (fun q:Rat=>D.list (W (w32 q.num.natAbs))) (congrArg Prod.snd ho1)
    |exact congrArg (fun q:Rat=>D.list (W (w32 q.num.natAbs))) (congrArg Prod.snd ho1).symm
    |exact congrArg (fun q:Rat=>D.list (W (w32 q.den))) (congrArg Prod.snd ho1)
    |exact congrArg (fun q:Rat=>D.list (W (w32 q.den))) (congrArg Prod.snd ho1).symm
  obtain⟨g1,g2⟩:=hs
  have hsz:=Zdh (g:=gXn) (fun m p=>(Ziv m p).1) (P:=fun p=>qs p.1≤215000000∧qs p.2≤215000000) (l.take i) x12 (hz _ (List.mem_of_getElem? hx12)) (fun p hp=>hz p (List.mem_of_mem_take hp))
  try simp only at hsz
  refine⟨fun e2=> ?_,fun e2=> ?_⟩
  ·have f17:(i:Int)< ((List.map rqP l).length:Int):=of_decide_eq_true e2
   refine Zc (l:=l) (i:=i) (by first|omega|exact Nat.mod_lt _ (by omega)) fun x23 hx23=> ?_
   refine k_ix i [D.v (.bool (decide (x23.1.num< 0))),D.list (W (w32 x23.1.num.natAbs)),D.list (W (w32 x23.1.den)),D.v (.bool (decide (x23.2.num< 0))),D.list (W (w32 x23.2.num.natAbs)),D.list (W (w32 x23.2.den))] (by first|rfl|omega|(rw [wrap64 _ (by omega) (by omega)];omega)|(rw [wrap64 _ (by omega) (by omega)];split<;>omega)) (Zb hx23) rfl ?_
   refine ZwN (p:=x23) (q:=(selF gXn x12 (l.take i))) (hz _ (List.mem_of_getElem? hx23)) hsz fun n26 hn26=> ?_
   refine⟨by kernel_rfl,?_⟩
   refine⟨fun e3=> ?_,fun e3=> ?_⟩
   ·have f27:x23.1< (selF gXn x12 (l.take i)).1:=(ZsO hn26).1 (of_decide_eq_true e3)
    refine k_ix i [D.v (.bool (decide (x23.1.num< 0))),D.list (W (w32 x23.1.num.natAbs)),D.list (W (w32 x23.1.den)),D.v (.bool (decide (x23.2.num< 0))),D.list (W (w32 x23.2.num.natAbs)),D.list (W (w32 x23.2.den))] (by first|rfl|omega|(rw [wrap64 _ (by omega) (by omega)];omega)|(rw [wrap64 _ (by omega) (by omega)];split<;>omega)) (Zb hx23) rfl ?_
    have hs1:(selF gXn x12 (l.take (i+1)))=x23:=by rw [ZaF gXn x12 hx23];exact if_pos f27
    refine⟨i+1,⟨by omega,by omega⟩,by simp only;omega,?_⟩
    constructor<;>(repeat' (first|exact rfl|exact True.intro|apply And.intro))
    all_goals first
     |exact congrArg (fun q:Rat=>D.v (.bool (decide (q.num< 0)))) (congrArg Prod.fst hs1)
     |exact congrArg (fun q:Rat=>D.v (.bool (decide (q.num< 0)))) (congrArg Prod.fst hs1).symm
     |exact congrArg (fun q:Rat=>D.list (W (w32 q.num.natAbs))) (congrArg Prod.fst hs1)
     |exact congrArg (fun q:Rat=>D.list (W (w32 q.num.natAbs))) (congrArg Prod.fst hs1).symm
     |exact congrArg (fun q:Rat=>D.list (W (w32 q.den))) (congrArg Prod.fst hs1)
     |exact congrArg (fun q:Rat=>D.list (W (w32 q.den))) (congrArg Prod.fst hs1).symm
     |exact congrArg (fun q:Rat=>D.v (.bool (decide (q.num< 0)))) (congrArg Prod.snd hs1)
     |exact congrArg (fun q:Rat=>D.v (.bool (decide (q.num< 0)))) (congrArg Prod.snd hs1).symm
     |exact congrArg (fun q:Rat=>D.list (W (w32 q.num.natAbs))) (congrArg Prod.snd hs1)
     |exact congrArg (fun q:Rat=>D.list (W (w32 q.num.natAbs))) (congrArg Prod.snd hs1).symm
     |exact congrArg (fun q:Rat=>D.list (W (w32 q.den))) (congrArg Prod.snd hs1)
     |exact congrArg (fun q:Rat=>D.list (W (w32 q.den))) (congrArg Prod.snd hs1).symm
     |exact congrArg (fun n:Int=>D.v (.int .i64 n)) (by rw [wrap64 _ (by omega) (by omega)];omega)
     |exact congrArg (fun n:Int=>D.v (.int .i64 n)) (by omega)
   ·have f27:¬ (x23.1< (selF gXn x12 (l.take i)).1):=fun hh=>of_decide_eq_false e3 ((ZsO hn26).2 hh)
    have hs1:(selF gXn x12 (l.take (i+1)))=(selF gXn x12 (l.take i)):=by rw [ZaF gXn x12 hx23];exact if_neg f27
    refine⟨i+1,⟨by omega,by omega⟩,by simp only;omega,?_⟩
    constructor<;>(repeat' (first|exact rfl|exact True.intro|apply And.intro))
    all_goals first
     |exact congrArg (fun q:Rat=>D.v (.bool (decide (q.num< 0)))) (congrArg Prod.fst hs1)
     |exact congrArg (fun q:Rat=>D.v (.bool (decide (q.num< 0)))) (congrArg Prod.fst hs1).symm
     |exact congrArg (fun q:Rat=>D.list (W (w32 q.num.natAbs))) (congrArg Prod.fst hs1)
     |exact congrArg (fun q:Rat=>D.list (W (w32 q.num.natAbs))) (congrArg Prod.fst hs1).symm
     |exact congrArg (fun q:Rat=>D.list (W (w32 q.den))) (congrArg Prod.fst hs1)
     |exact congrArg (fun q:Rat=>D.list (W (w32 q.den))) (congrArg Prod.fst hs1).symm
     |exact congrArg (fun q:Rat=>D.v (.bool (decide (q.num< 0)))) (congrArg Prod.snd hs1)
     |exact congrArg (fun q:Rat=>D.v (.bool (decide (q.num< 0)))) (congrArg Prod.snd hs1).symm
     |exact congrArg (fun q:Rat=>D.list (W (w32 q.num.natAbs))) (congrArg Prod.snd hs1)
     |exact congrArg (fun q:Rat=>D.list (W (w32 q.num.natAbs))) (congrArg Prod.snd hs1).symm
     |exact congrArg (fun q:Rat=>D.list (W (w32 q.den))) (congrArg Prod.snd hs1)
     |exact congrArg (fun q:Rat=>D.list (W (w32 q.den))) (congrArg Prod.snd hs1).symm
     |exact congrArg (fun n:Int=>D.v (.int .i64 n)) (by rw [wrap64 _ (by omega) (by omega)];omega)
     |exact congrArg (fun n:Int=>D.v (.int .i64 n)) (by omega)
  ·have f17:¬ ((i:Int)< ((List.map rqP l).length:Int)):=of_decide_eq_false e2
   refine Eq.trans (b:=q3p ((selF gXn x12 (l.take i)).1) ((selF gXn x12 (l.take i)).2)) ?_ rfl
   have hfin:selF gXn (ptQ l 0) l=selF gXn x12 (l.take i):=by rw [Zge hx12,List.take_of_length_le (by omega)]
   rw [hfin]
theorem ZxW {l:List (Rat×Rat)} (h0:0< l.length) (hn:l.length≤1048576) (hz:∀ p,p∈l→qs p.1≤215000000∧qs p.2≤215000000) (k:∀ p,p=selF gXn (ptQ l 0) l→K (q3p p.1 p.2)):Ask 87 [.val (.one (.d (.list (List.map rqP l)))),fv 85] K:=use (ZsB l h0 hn hz) rfl (k _ rfl)
set_option maxHeartbeats 2000000 in
theorem Zsz (l:List (Rat×Rat)) (h0:0< l.length) (hn:l.length≤1048576) (hz:∀ p,p∈l→qs p.1≤215000000∧qs p.2≤215000000):Spec Tryz.prog Tab 87 [.val (.one (.d (.list (List.map rqP l)))),fv 86] (q3p ((selF gYn (ptQ l 0) l).1) ((selF gYn (ptQ l 0) l).2)):=by
 have hLl:(List.map rqP l).length=l.length:=List.length_map ..
 refine Za Tryz.func87 rfl rfl Tryz.ntmps87 rfl (by kernel_rfl) rfl rfl ?_
 refine⟨fun e1=> ?_,fun e1=> ?_⟩
 ·have f9:((List.map rqP l).length:Int)< 1:=of_decide_eq_true e1
  exfalso
  omega
 ·have f9:¬ (((List.map rqP l).length:Int)< 1):=of_decide_eq_false e1
  refine Zc (l:=l) (i:=0) (by first|omega|exact Nat.mod_lt _ (by omega)) fun x12 hx12=> ?_
  refine k_ix 0 [D.v (.bool (decide (x12.1.num< 0))),D.list (W (w32 x12.1.num.natAbs)),D.list (W (w32 x12.1.den)),D.v (.bool (decide (x12.2.num< 0))),D.list (W (w32 x12.2.num.natAbs)),D.list (W (w32 x12.2.den))] (by first|rfl|omega|(rw [wrap64 _ (by omega) (by omega)];omega)|(rw [wrap64 _ (by omega) (by omega)];split<;>omega)) (Zb hx12) rfl ?_
  have ho1:=Zew (Zlg x12).2.1 hx12
  refine⟨Nat,fun i=> [(0,.val (.one (.d (.list (List.map rqP l))))),(1,fv 86),(4,.val (.one (.ptr 4 0))),(5,.val (.one (.ptr 5 0))),(6,int (i:Int))],
   fun i=> [(4,.var 104 [.d (.v (.bool false)),.d (.v (.slice none 0 0)),.d (.v (.slice none 0 0)),.d (.v (.bool false)),.d (.v (.slice none 0 0)),.d (.v (.slice none 0 0))]),(5,.var 104 [.d (.v (.bool (decide (((selF gYn x12 (l.take i)).1).num< 0)))),.d (.list (W (w32 ((selF gYn x12 (l.take i)).1).num.natAbs))),.d (.list (W (w32 ((selF gYn x12 (l.take i)).1).den))),.d (.v (.bool (decide (((selF gYn x12 (l.take i)).2).num< 0)))),.d (.list (W (w32 ((selF gYn x12 (l.take i)).2).num.natAbs))),.d (.list (W (w32 ((selF gYn x12 (l.take i)).2).den)))])],fun i=>1≤i∧i≤l.length,fun i=>l.length - i,1,?_,⟨Nat.le_refl _,by omega⟩,fun i hs=> ?_⟩
  ·constructor<;>(repeat' (first|exact rfl|exact True.intro|exact⟨_,_,rfl⟩|exact(by decide)|apply And.intro))
   all_goals first
    |exact congrArg (fun q:Rat=>D.v (.bool (decide (q.num< 0)))) (congrArg Prod.fst ho1)
    |exact congrArg (fun q:Rat=>D.v (.bool (decide (q.num< 0)))) (congrArg Prod.fst ho1).symm
    |exact congrArg (fun q:Rat=>D.list (W (w32 q.num.natAbs))) (congrArg Prod.fst ho1)
    |exact congrArg (fun q:Rat=>D.list (W (w32 q.num.natAbs))) (congrArg Prod.fst ho1).symm
    |exact congrArg (fun q:Rat=>D.list (W (w32 q.den))) (congrArg Prod.fst ho1)
    |exact congrArg (fun q:Rat=>D.list (W (w32 q.den))) (congrArg Prod.fst ho1).symm
    |exact congrArg (fun q:Rat=>D.v (.bool (decide (q.num< 0)))) (congrArg Prod.snd ho1)
    |exact congrArg (fun q:Rat=>D.v (.bool (decide (q.num< 0)))) (congrArg Prod.snd ho1).symm
    |exact congrArg (fun q:Rat=>D.list (W (w32 q.num.natAbs))) (congrArg Prod.snd ho1)
    |exact congrArg (fun q:Rat=>D.list (W (w32 q.num.natAbs))) (congrArg Prod.snd ho1).symm
    |exact congrArg (fun q:Rat=>D.list (W (w32 q.den))) (congrArg Prod.snd ho1)
    |exact congrArg (fun q:Rat=>D.list (W (w32 q.den))) (congrArg Prod.snd ho1).symm
  obtain⟨g1,g2⟩:=hs
  have hsz:=Zdh (g:=gYn) (fun m p=>(Ziv m p).2.1) (P:=fun p=>qs p.1≤215000000∧qs p.2≤215000000) (l.take i) x12 (hz _ (List.mem_of_getElem? hx12)) (fun p hp=>hz p (List.mem_of_mem_take hp))
  try simp only at hsz
  refine⟨fun e2=> ?_,fun e2=> ?_⟩
  ·have f17:(i:Int)< ((List.map rqP l).length:Int):=of_decide_eq_true e2
   refine Zc (l:=l) (i:=i) (by first|omega|exact Nat.mod_lt _ (by omega)) fun x23 hx23=> ?_
   refine k_ix i [D.v (.bool (decide (x23.1.num< 0))),D.list (W (w32 x23.1.num.natAbs)),D.list (W (w32 x23.1.den)),D.v (.bool (decide (x23.2.num< 0))),D.list (W (w32 x23.2.num.natAbs)),D.list (W (w32 x23.2.den))] (by first|rfl|omega|(rw [wrap64 _ (by omega) (by omega)];omega)|(rw [wrap64 _ (by omega) (by omega)];split<;>omega)) (Zb hx23) rfl ?_
   refine ZwM (p:=x23) (q:=(selF gYn x12 (l.take i))) (hz _ (List.mem_of_getElem? hx23)) hsz fun n26 hn26=> ?_
   refine⟨by kernel_rfl,?_⟩
   refine⟨fun e3=> ?_,fun e3=> ?_⟩
   ·have f27:x23.2< (selF gYn x12 (l.take i)).2:=(ZsO hn26).1 (of_decide_eq_true e3)
    refine k_ix i [D.v (.bool (decide (x23.1.num< 0))),D.list (W (w32 x23.1.num.natAbs)),D.list (W (w32 x23.1.den)),D.v (.bool (decide (x23.2.num< 0))),D.list (W (w32 x23.2.num.natAbs)),D.list (W (w32 x23.2.den))] (by first|rfl|omega|(rw [wrap64 _ (by omega) (by omega)];omega)|(rw [wrap64 _ (by omega) (by omega)];split<;>omega)) (Zb hx23) rfl ?_
    have hs1:(selF gYn x12 (l.take (i+1)))=x23:=by rw [ZaF gYn x12 hx23];exact if_pos f27
    refine⟨i+1,⟨by omega,by omega⟩,by simp only;omega,?_⟩
    constructor<;>(repeat' (first|exact rfl|exact True.intro|apply And.intro))
    all_goals first
     |exact congrArg (fun q:Rat=>D.v (.bool (decide (q.num< 0)))) (congrArg Prod.fst hs1)
     |exact congrArg (fun q:Rat=>D.v (.bool (decide (q.num< 0)))) (congrArg Prod.fst hs1).symm
     |exact congrArg (fun q:Rat=>D.list (W (w32 q.num.natAbs))) (congrArg Prod.fst hs1)
     |exact congrArg (fun q:Rat=>D.list (W (w32 q.num.natAbs))) (congrArg Prod.fst hs1).symm
     |exact congrArg (fun q:Rat=>D.list (W (w32 q.den))) (congrArg Prod.fst hs1)
     |exact congrArg (fun q:Rat=>D.list (W (w32 q.den))) (congrArg Prod.fst hs1).symm
     |exact congrArg (fun q:Rat=>D.v (.bool (decide (q.num< 0)))) (congrArg Prod.snd hs1)
     |exact congrArg (fun q:Rat=>D.v (.bool (decide (q.num< 0)))) (congrArg Prod.snd hs1).symm
     |exact congrArg (fun q:Rat=>D.list (W (w32 q.num.natAbs))) (congrArg Prod.snd hs1)
     |exact congrArg (fun q:Rat=>D.list (W (w32 q.num.natAbs))) (congrArg Prod.snd hs1).symm
     |exact congrArg (fun q:Rat=>D.list (W (w32 q.den))) (congrArg Prod.snd hs1)
     |exact congrArg (fun q:Rat=>D.list (W (w32 q.den))) (congrArg Prod.snd hs1).symm
     |exact congrArg (fun n:Int=>D.v (.int .i64 n)) (by rw [wrap64 _ (by omega) (by omega)];omega)
     |exact congrArg (fun n:Int=>D.v (.int .i64 n)) (by omega)
   ·have f27:¬ (x23.2< (selF gYn x12 (l.take i)).2):=fun hh=>of_decide_eq_false e3 ((ZsO hn26).2 hh)
    have hs1:(selF gYn x12 (l.take (i+1)))=(selF gYn x12 (l.take i)):=by rw [ZaF gYn x12 hx23];exact if_neg f27
    refine⟨i+1,⟨by omega,by omega⟩,by simp only;omega,?_⟩
    constructor<;>(repeat' (first|exact rfl|exact True.intro|apply And.intro))
    all_goals first
     |exact congrArg (fun q:Rat=>D.v (.bool (decide (q.num< 0)))) (congrArg Prod.fst hs1)
     |exact congrArg (fun q:Rat=>D.v (.bool (decide (q.num< 0)))) (congrArg Prod.fst hs1).symm
     |exact congrArg (fun q:Rat=>D.list (W (w32 q.num.natAbs))) (congrArg Prod.fst hs1)
     |exact congrArg (fun q:Rat=>D.list (W (w32 q.num.natAbs))) (congrArg Prod.fst hs1).symm
     |exact congrArg (fun q:Rat=>D.list (W (w32 q.den))) (congrArg Prod.fst hs1)
     |exact congrArg (fun q:Rat=>D.list (W (w32 q.den))) (congrArg Prod.fst hs1).symm
     |exact congrArg (fun q:Rat=>D.v (.bool (decide (q.num< 0)))) (congrArg Prod.snd hs1)
     |exact congrArg (fun q:Rat=>D.v (.bool (decide (q.num< 0)))) (congrArg Prod.snd hs1).symm
     |exact congrArg (fun q:Rat=>D.list (W (w32 q.num.natAbs))) (congrArg Prod.snd hs1)
     |exact congrArg (fun q:Rat=>D.list (W (w32 q.num.natAbs))) (congrArg Prod.snd hs1).symm
     |exact congrArg (fun q:Rat=>D.list (W (w32 q.den))) (congrArg Prod.snd hs1)
     |exact congrArg (fun q:Rat=>D.list (W (w32 q.den))) (congrArg Prod.snd hs1).symm
     |exact congrArg (fun n:Int=>D.v (.int .i64 n)) (by rw [wrap64 _ (by omega) (by omega)];omega)
     |exact congrArg (fun n:Int=>D.v (.int .i64 n)) (by omega)
  ·have f17:¬ ((i:Int)< ((List.map rqP l).length:Int)):=of_decide_eq_false e2
   refine Eq.trans (b:=q3p ((selF gYn x12 (l.take i)).1) ((selF gYn x12 (l.take i)).2)) ?_ rfl
   have hfin:selF gYn (ptQ l 0) l=selF gYn x12 (l.take i):=by rw [Zge hx12,List.take_of_length_le (by omega)]
   rw [hfin]
theorem ZxU {l:List (Rat×Rat)} (h0:0< l.length) (hn:l.length≤1048576) (hz:∀ p,p∈l→qs p.1≤215000000∧qs p.2≤215000000) (k:∀ p,p=selF gYn (ptQ l 0) l→K (q3p p.1 p.2)):Ask 87 [.val (.one (.d (.list (List.map rqP l)))),fv 86] K:=use (Zsz l h0 hn hz) rfl (k _ rfl)
set_option maxHeartbeats 2000000 in
theorem ZsA (l:List (Rat×Rat)) (h0:0< l.length) (hn:l.length≤1048576) (hz:∀ p,p∈l→qs p.1≤215000000∧qs p.2≤215000000):Spec Tryz.prog Tab 88 [.val (.one (.d (.list (List.map rqP l)))),fv 85] (q3p ((selF gXx (ptQ l 0) l).1) ((selF gXx (ptQ l 0) l).2)):=by
 have hLl:(List.map rqP l).length=l.length:=List.length_map ..
 refine Za Tryz.func88 rfl rfl Tryz.ntmps88 rfl (by kernel_rfl) rfl rfl ?_
 refine⟨fun e1=> ?_,fun e1=> ?_⟩
 ·have f9:((List.map rqP l).length:Int)< 1:=of_decide_eq_true e1
  exfalso
  omega
 ·have f9:¬ (((List.map rqP l).length:Int)< 1):=of_decide_eq_false e1
  refine Zc (l:=l) (i:=0) (by first|omega|exact Nat.mod_lt _ (by omega)) fun x12 hx12=> ?_
  refine k_ix 0 [D.v (.bool (decide (x12.1.num< 0))),D.list (W (w32 x12.1.num.natAbs)),D.list (W (w32 x12.1.den)),D.v (.bool (decide (x12.2.num< 0))),D.list (W (w32 x12.2.num.natAbs)),D.list (W (w32 x12.2.den))] (by first|rfl|omega|(rw [wrap64 _ (by omega) (by omega)];omega)|(rw [wrap64 _ (by omega) (by omega)];split<;>omega)) (Zb hx12) rfl ?_
  have ho1:=Zew (Zlg x12).2.2.1 hx12
  refine⟨Nat,fun i=> [(0,.val (.one (.d (.list (List.map rqP l))))),(1,fv 85),(4,.val (.one (.ptr 4 0))),(5,.val (.one (.ptr 5 0))),(6,int (i:Int))],
   fun i=> [(4,.var 104 [.d (.v (.bool false)),.d (.v (.slice none 0 0)),.d (.v (.slice none 0 0)),.d (.v (.bool false)),.d (.v (.slice none 0 0)),.d (.v (.slice none 0 0))]),(5,.var 104 [.d (.v (.bool (decide (((selF gXx x12 (l.take i)).1).num< 0)))),.d (.list (W (w32 ((selF gXx x12 (l.take i)).1).num.natAbs))),.d (.list (W (w32 ((selF gXx x12 (l.take i)).1).den))),.d (.v (.bool (decide (((selF gXx x12 (l.take i)).2).num< 0)))),.d (.list (W (w32 ((selF gXx x12 (l.take i)).2).num.natAbs))),.d (.list (W (w32 ((selF gXx x12 (l.take i)).2).den)))])],fun i=>1≤i∧i≤l.length,fun i=>l.length - i,1,?_,⟨Nat.le_refl _,by omega⟩,fun i hs=> ?_⟩
  ·constructor<;>(repeat' (first|exact rfl|exact True.intro|exact⟨_,_,rfl⟩|exact(by decide)|apply And.intro))
   all_goals first
    |exact congrArg (fun q:Rat=>D.v (.bool (decide (q.num< 0)))) (congrArg Prod.fst ho1)
    |exact congrArg (fun q:Rat=>D.v (.bool (decide (q.num< 0)))) (congrArg Prod.fst ho1).symm
    |exact congrArg (fun q:Rat=>D.list (W (w32 q.num.natAbs))) (congrArg Prod.fst ho1)
    |exact congrArg (fun q:Rat=>D.list (W (w32 q.num.natAbs))) (congrArg Prod.fst ho1).symm
    |exact congrArg (fun q:Rat=>D.list (W (w32 q.den))) (congrArg Prod.fst ho1)
    |exact congrArg (fun q:Rat=>D.list (W (w32 q.den))) (congrArg Prod.fst ho1).symm
    |exact congrArg (fun q:Rat=>D.v (.bool (decide (q.num< 0)))) (congrArg Prod.snd ho1)
    |exact congrArg (fun q:Rat=>D.v (.bool (decide (q.num< 0)))) (congrArg Prod.snd ho1).symm
    |exact congrArg (fun q:Rat=>D.list (W (w32 q.num.natAbs))) (congrArg Prod.snd ho1)
    |exact congrArg (fun q:Rat=>D.list (W (w32 q.num.natAbs))) (congrArg Prod.snd ho1).symm
    |exact congrArg (fun q:Rat=>D.list (W (w32 q.den))) (congrArg Prod.snd ho1)
    |exact congrArg (fun q:Rat=>D.list (W (w32 q.den))) (congrArg Prod.snd ho1).symm
  obtain⟨g1,g2⟩:=hs
  have hsz:=Zdh (g:=gXx) (fun m p=>(Ziv m p).2.2.1) (P:=fun p=>qs p.1≤215000000∧qs p.2≤215000000) (l.take i) x12 (hz _ (List.mem_of_getElem? hx12)) (fun p hp=>hz p (List.mem_of_mem_take hp))
  try simp only at hsz
  refine⟨fun e2=> ?_,fun e2=> ?_⟩
  ·have f17:(i:Int)< ((List.map rqP l).length:Int):=of_decide_eq_true e2
   refine Zc (l:=l) (i:=i) (by first|omega|exact Nat.mod_lt _ (by omega)) fun x23 hx23=> ?_
   refine k_ix i [D.v (.bool (decide (x23.1.num< 0))),D.list (W (w32 x23.1.num.natAbs)),D.list (W (w32 x23.1.den)),D.v (.bool (decide (x23.2.num< 0))),D.list (W (w32 x23.2.num.natAbs)),D.list (W (w32 x23.2.den))] (by first|rfl|omega|(rw [wrap64 _ (by omega) (by omega)];omega)|(rw [wrap64 _ (by omega) (by omega)];split<;>omega)) (Zb hx23) rfl ?_
   refine ZwN (p:=x23) (q:=(selF gXx x12 (l.take i))) (hz _ (List.mem_of_getElem? hx23)) hsz fun n26 hn26=> ?_
   refine⟨by kernel_rfl,?_⟩
   refine⟨fun e3=> ?_,fun e3=> ?_⟩
   ·have f27:(selF gXx x12 (l.take i)).1< x23.1:=(ZfU hn26).1 (of_decide_eq_true e3)
    refine k_ix i [D.v (.bool (decide (x23.1.num< 0))),D.list (W (w32 x23.1.num.natAbs)),D.list (W (w32 x23.1.den)),D.v (.bool (decide (x23.2.num< 0))),D.list (W (w32 x23.2.num.natAbs)),D.list (W (w32 x23.2.den))] (by first|rfl|omega|(rw [wrap64 _ (by omega) (by omega)];omega)|(rw [wrap64 _ (by omega) (by omega)];split<;>omega)) (Zb hx23) rfl ?_
    have hs1:(selF gXx x12 (l.take (i+1)))=x23:=by rw [ZaF gXx x12 hx23];exact if_pos f27
    refine⟨i+1,⟨by omega,by omega⟩,by simp only;omega,?_⟩
    constructor<;>(repeat' (first|exact rfl|exact True.intro|apply And.intro))
    all_goals first
     |exact congrArg (fun q:Rat=>D.v (.bool (decide (q.num< 0)))) (congrArg Prod.fst hs1)
     |exact congrArg (fun q:Rat=>D.v (.bool (decide (q.num< 0)))) (congrArg Prod.fst hs1).symm
     |exact congrArg (fun q:Rat=>D.list (W (w32 q.num.natAbs))) (congrArg Prod.fst hs1)
     |exact congrArg (fun q:Rat=>D.list (W (w32 q.num.natAbs))) (congrArg Prod.fst hs1).symm
     |exact congrArg (fun q:Rat=>D.list (W (w32 q.den))) (congrArg Prod.fst hs1)
     |exact congrArg (fun q:Rat=>D.list (W (w32 q.den))) (congrArg Prod.fst hs1).symm
     |exact congrArg (fun q:Rat=>D.v (.bool (decide (q.num< 0)))) (congrArg Prod.snd hs1)
     |exact congrArg (fun q:Rat=>D.v (.bool (decide (q.num< 0)))) (congrArg Prod.snd hs1).symm
     |exact congrArg (fun q:Rat=>D.list (W (w32 q.num.natAbs))) (congrArg Prod.snd hs1)
     |exact congrArg (fun q:Rat=>D.list (W (w32 q.num.natAbs))) (congrArg Prod.snd hs1).symm
     |exact congrArg (fun q:Rat=>D.list (W (w32 q.den))) (congrArg Prod.snd hs1)
     |exact congrArg (fun q:Rat=>D.list (W (w32 q.den))) (congrArg Prod.snd hs1).symm
     |exact congrArg (fun n:Int=>D.v (.int .i64 n)) (by rw [wrap64 _ (by omega) (by omega)];omega)
     |exact congrArg (fun n:Int=>D.v (.int .i64 n)) (by omega)
   ·have f27:¬ ((selF gXx x12 (l.take i)).1< x23.1):=fun hh=>of_decide_eq_false e3 ((ZfU hn26).2 hh)
    have hs1:(selF gXx x12 (l.take (i+1)))=(selF gXx x12 (l.take i)):=by rw [ZaF gXx x12 hx23];exact if_neg f27
    refine⟨i+1,⟨by omega,by omega⟩,by simp only;omega,?_⟩
    constructor<;>(repeat' (first|exact rfl|exact True.intro|apply And.intro))
    all_goals first
     |exact congrArg (fun q:Rat=>D.v (.bool (decide (q.num< 0)))) (congrArg Prod.fst hs1)
     |exact congrArg (fun q:Rat=>D.v (.bool (decide (q.num< 0)))) (congrArg Prod.fst hs1).symm
     |exact congrArg (fun q:Rat=>D.list (W (w32 q.num.natAbs))) (congrArg Prod.fst hs1)
     |exact congrArg (fun q:Rat=>D.list (W (w32 q.num.natAbs))) (congrArg Prod.fst hs1).symm
     |exact congrArg (fun q:Rat=>D.list (W (w32 q.den))) (congrArg Prod.fst hs1)
     |exact congrArg (fun q:Rat=>D.list (W (w32 q.den))) (congrArg Prod.fst hs1).symm
     |exact congrArg (fun q:Rat=>D.v (.bool (decide (q.num< 0)))) (congrArg Prod.snd hs1)
     |exact congrArg (fun q:Rat=>D.v (.bool (decide (q.num< 0)))) (congrArg Prod.snd hs1).symm
     |exact congrArg (fun q:Rat=>D.list (W (w32 q.num.natAbs))) (congrArg Prod.snd hs1)
     |exact congrArg (fun q:Rat=>D.list (W (w32 q.num.natAbs))) (congrArg Prod.snd hs1).symm
     |exact congrArg (fun q:Rat=>D.list (W (w32 q.den))) (congrArg Prod.snd hs1)
     |exact congrArg (fun q:Rat=>D.list (W (w32 q.den))) (congrArg Prod.snd hs1).symm
     |exact congrArg (fun n:Int=>D.v (.int .i64 n)) (by rw [wrap64 _ (by omega) (by omega)];omega)
     |exact congrArg (fun n:Int=>D.v (.int .i64 n)) (by omega)
  ·have f17:¬ ((i:Int)< ((List.map rqP l).length:Int)):=of_decide_eq_false e2
   refine Eq.trans (b:=q3p ((selF gXx x12 (l.take i)).1) ((selF gXx x12 (l.take i)).2)) ?_ rfl
   have hfin:selF gXx (ptQ l 0) l=selF gXx x12 (l.take i):=by rw [Zge hx12,List.take_of_length_le (by omega)]
   rw [hfin]
theorem ZxV {l:List (Rat×Rat)} (h0:0< l.length) (hn:l.length≤1048576) (hz:∀ p,p∈l→qs p.1≤215000000∧qs p.2≤215000000) (k:∀ p,p=selF gXx (ptQ l 0) l→K (q3p p.1 p.2)):Ask 88 [.val (.one (.d (.list (List.map rqP l)))),fv 85] K:=use (ZsA l h0 hn hz) rfl (k _ rfl)
set_option maxHeartbeats 2000000 in
theorem Zsy (l:List (Rat×Rat)) (h0:0< l.length) (hn:l.length≤1048576) (hz:∀ p,p∈l→qs p.1≤215000000∧qs p.2≤215000000):Spec Tryz.prog Tab 88 [.val (.one (.d (.list (List.map rqP l)))),fv 86] (q3p ((selF gYx (ptQ l 0) l).1) ((selF gYx (ptQ l 0) l).2)):=by
 have hLl:(List.map rqP l).length=l.length:=List.length_map ..
 refine Za Tryz.func88 rfl rfl Tryz.ntmps88 rfl (by kernel_rfl) rfl rfl ?_
 refine⟨fun e1=> ?_,fun e1=> ?_⟩
 ·have f9:((List.map rqP l).length:Int)< 1:=of_decide_eq_true e1
  exfalso
  omega
 ·have f9:¬ (((List.map rqP l).length:Int)< 1):=of_decide_eq_false e1
  refine Zc (l:=l) (i:=0) (by first|omega|exact Nat.mod_lt _ (by omega)) fun x12 hx12=> ?_
  refine k_ix 0 [D.v (.bool (decide (x12.1.num< 0))),D.list (W (w32 x12.1.num.natAbs)),D.list (W (w32 x12.1.den)),D.v (.bool (decide (x12.2.num< 0))),D.list (W (w32 x12.2.num.natAbs)),D.list (W (w32 x12.2.den))] (by first|rfl|omega|(rw [wrap64 _ (by omega) (by omega)];omega)|(rw [wrap64 _ (by omega) (by omega)];split<;>omega)) (Zb hx12) rfl ?_
  have ho1:=Zew (Zlg x12).2.2.2 hx12
  refine⟨Nat,fun i=> [(0,.val (.one (.d (.list (List.map rqP l))))),(1,fv 86),(4,.val (.one (.ptr 4 0))),(5,.val (.one (.ptr 5 0))),(6,int (i:Int))],
   fun i=> [(4,.var 104 [.d (.v (.bool false)),.d (.v (.slice none 0 0)),.d (.v (.slice none 0 0)),.d (.v (.bool false)),.d (.v (.slice none 0 0)),.d (.v (.slice none 0 0))]),(5,.var 104 [.d (.v (.bool (decide (((selF gYx x12 (l.take i)).1).num< 0)))),.d (.list (W (w32 ((selF gYx x12 (l.take i)).1).num.natAbs))),.d (.list (W (w32 ((selF gYx x12 (l.take i)).1).den))),.d (.v (.bool (decide (((selF gYx x12 (l.take i)).2).num< 0)))),.d (.list (W (w32 ((selF gYx x12 (l.take i)).2).num.natAbs))),.d (.list (W (w32 ((selF gYx x12 (l.take i)).2).den)))])],fun i=>1≤i∧i≤l.length,fun i=>l.length - i,1,?_,⟨Nat.le_refl _,by omega⟩,fun i hs=> ?_⟩
  ·constructor<;>(repeat' (first|exact rfl|exact True.intro|exact⟨_,_,rfl⟩|exact(by decide)|apply And.intro))
   all_goals first
    |exact congrArg (fun q:Rat=>D.v (.bool (decide (q.num< 0)))) (congrArg Prod.fst ho1)
    |exact congrArg (fun q:Rat=>D.v (.bool (decide (q.num< 0)))) (congrArg Prod.fst ho1).symm
    |exact congrArg (fun q:Rat=>D.list (W (w32 q.num.natAbs))) (congrArg Prod.fst ho1)
    |exact congrArg (fun q:Rat=>D.list (W (w32 q.num.natAbs))) (congrArg Prod.fst ho1).symm
    |exact congrArg (fun q:Rat=>D.list (W (w32 q.den))) (congrArg Prod.fst ho1)
    |exact congrArg (fun q:Rat=>D.list (W (w32 q.den))) (congrArg Prod.fst ho1).symm
    |exact congrArg (fun q:Rat=>D.v (.bool (decide (q.num< 0)))) (congrArg Prod.snd ho1)
    |exact congrArg (fun q:Rat=>D.v (.bool (decide (q.num< 0)))) (congrArg Prod.snd ho1).symm
    |exact congrArg (fun q:Rat=>D.list (W (w32 q.num.natAbs))) (congrArg Prod.snd ho1)
    |exact congrArg (fun q:Rat=>D.list (W (w32 q.num.natAbs))) (congrArg Prod.snd ho1).symm
    |exact congrArg (fun q:Rat=>D.list (W (w32 q.den))) (congrArg Prod.snd ho1)
    |exact congrArg (fun q:Rat=>D.list (W (w32 q.den))) (congrArg Prod.snd ho1).symm
  obtain⟨g1,g2⟩:=hs
  have hsz:=Zdh (g:=gYx) (fun m p=>(Ziv m p).2.2.2) (P:=fun p=>qs p.1≤215000000∧qs p.2≤215000000) (l.take i) x12 (hz _ (List.mem_of_getElem? hx12)) (fun p hp=>hz p (List.mem_of_mem_take hp))
  try simp only at hsz
  refine⟨fun e2=> ?_,fun e2=> ?_⟩
  ·have f17:(i:Int)< ((List.map rqP l).length:Int):=of_decide_eq_true e2
   refine Zc (l:=l) (i:=i) (by first|omega|exact Nat.mod_lt _ (by omega)) fun x23 hx23=> ?_
   refine k_ix i [D.v (.bool (decide (x23.1.num< 0))),D.list (W (w32 x23.1.num.natAbs)),D.list (W (w32 x23.1.den)),D.v (.bool (decide (x23.2.num< 0))),D.list (W (w32 x23.2.num.natAbs)),D.list (W (w32 x23.2.den))] (by first|rfl|omega|(rw [wrap64 _ (by omega) (by omega)];omega)|(rw [wrap64 _ (by omega) (by omega)];split<;>omega)) (Zb hx23) rfl ?_
   refine ZwM (p:=x23) (q:=(selF gYx x12 (l.take i))) (hz _ (List.mem_of_getElem? hx23)) hsz fun n26 hn26=> ?_
   refine⟨by kernel_rfl,?_⟩
   refine⟨fun e3=> ?_,fun e3=> ?_⟩
   ·have f27:(selF gYx x12 (l.take i)).2< x23.2:=(ZfU hn26).1 (of_decide_eq_true e3)
    refine k_ix i [D.v (.bool (decide (x23.1.num< 0))),D.list (W (w32 x23.1.num.natAbs)),D.list (W (w32 x23.1.den)),D.v (.bool (decide (x23.2.num< 0))),D.list (W (w32 x23.2.num.natAbs)),D.list (W (w32 x23.2.den))] (by first|rfl|omega|(rw [wrap64 _ (by omega) (by omega)];omega)|(rw [wrap64 _ (by omega) (by omega)];split<;>omega)) (Zb hx23) rfl ?_
    have hs1:(selF gYx x12 (l.take (i+1)))=x23:=by rw [ZaF gYx x12 hx23];exact if_pos f27
    refine⟨i+1,⟨by omega,by omega⟩,by simp only;omega,?_⟩
    constructor<;>(repeat' (first|exact rfl|exact True.intro|apply And.intro))
    all_goals first
     |exact congrArg (fun q:Rat=>D.v (.bool (decide (q.num< 0)))) (congrArg Prod.fst hs1)
     |exact congrArg (fun q:Rat=>D.v (.bool (decide (q.num< 0)))) (congrArg Prod.fst hs1).symm
     |exact congrArg (fun q:Rat=>D.list (W (w32 q.num.natAbs))) (congrArg Prod.fst hs1)
     |exact congrArg (fun q:Rat=>D.list (W (w32 q.num.natAbs))) (congrArg Prod.fst hs1).symm
     |exact congrArg (fun q:Rat=>D.list (W (w32 q.den))) (congrArg Prod.fst hs1)
     |exact congrArg (fun q:Rat=>D.list (W (w32 q.den))) (congrArg Prod.fst hs1).symm
     |exact congrArg (fun q:Rat=>D.v (.bool (decide (q.num< 0)))) (congrArg Prod.snd hs1)
     |exact congrArg (fun q:Rat=>D.v (.bool (decide (q.num< 0)))) (congrArg Prod.snd hs1).symm
     |exact congrArg (fun q:Rat=>D.list (W (w32 q.num.natAbs))) (congrArg Prod.snd hs1)
     |exact congrArg (fun q:Rat=>D.list (W (w32 q.num.natAbs))) (congrArg Prod.snd hs1).symm
     |exact congrArg (fun q:Rat=>D.list (W (w32 q.den))) (congrArg Prod.snd hs1)
     |exact congrArg (fun q:Rat=>D.list (W (w32 q.den))) (congrArg Prod.snd hs1).symm
     |exact congrArg (fun n:Int=>D.v (.int .i64 n)) (by rw [wrap64 _ (by omega) (by omega)];omega)
     |exact congrArg (fun n:Int=>D.v (.int .i64 n)) (by omega)
   ·have f27:¬ ((selF gYx x12 (l.take i)).2< x23.2):=fun hh=>of_decide_eq_false e3 ((ZfU hn26).2 hh)
    have hs1:(selF gYx x12 (l.take (i+1)))=(selF gYx x12 (l.take i)):=by rw [ZaF gYx x12 hx23];exact if_neg f27
    refine⟨i+1,⟨by omega,by omega⟩,by simp only;omega,?_⟩
    constructor<;>(repeat' (first|exact rfl|exact True.intro|apply And.intro))
    all_goals first
     |exact congrArg (fun q:Rat=>D.v (.bool (decide (q.num< 0)))) (congrArg Prod.fst hs1)
     |exact congrArg (fun q:Rat=>D.v (.bool (decide (q.num< 0)))) (congrArg Prod.fst hs1).symm
     |exact congrArg (fun q:Rat=>D.list (W (w32 q.num.natAbs))) (congrArg Prod.fst hs1)
     |exact congrArg (fun q:Rat=>D.list (W (w32 q.num.natAbs))) (congrArg Prod.fst hs1).symm
     |exact congrArg (fun q:Rat=>D.list (W (w32 q.den))) (congrArg Prod.fst hs1)
     |exact congrArg (fun q:Rat=>D.list (W (w32 q.den))) (congrArg Prod.fst hs1).symm
     |exact congrArg (fun q:Rat=>D.v (.bool (decide (q.num< 0)))) (congrArg Prod.snd hs1)
     |exact congrArg (fun q:Rat=>D.v (.bool (decide (q.num< 0)))) (congrArg Prod.snd hs1).symm
     |exact congrArg (fun q:Rat=>D.list (W (w32 q.num.natAbs))) (congrArg Prod.snd hs1)
     |exact congrArg (fun q:Rat=>D.list (W (w32 q.num.natAbs))) (congrArg Prod.snd hs1).symm
     |exact congrArg (fun q:Rat=>D.list (W (w32 q.den))) (congrArg Prod.snd hs1)
     |exact congrArg (fun q:Rat=>D.list (W (w32 q.den))) (congrArg Prod.snd hs1).symm
     |exact congrArg (fun n:Int=>D.v (.int .i64 n)) (by rw [wrap64 _ (by omega) (by omega)];omega)
     |exact congrArg (fun n:Int=>D.v (.int .i64 n)) (by omega)
  ·have f17:¬ ((i:Int)< ((List.map rqP l).length:Int)):=of_decide_eq_false e2
   refine Eq.trans (b:=q3p ((selF gYx x12 (l.take i)).1) ((selF gYx x12 (l.take i)).2)) ?_ rfl
   have hfin:selF gYx (ptQ l 0) l=selF gYx x12 (l.take i):=by rw [Zge hx12,List.take_of_length_le (by omega)]
   rw [hfin]
theorem ZxT {l:List (Rat×Rat)} (h0:0< l.length) (hn:l.length≤1048576) (hz:∀ p,p∈l→qs p.1≤215000000∧qs p.2≤215000000) (k:∀ p,p=selF gYx (ptQ l 0) l→K (q3p p.1 p.2)):Ask 88 [.val (.one (.d (.list (List.map rqP l)))),fv 86] K:=use (Zsy l h0 hn hz) rfl (k _ rfl)
end
end Go.Proofs.YtpfemjpgbpnpkaaGreatDoor.eng
