/- Joined by wip/bundle.py: XPolyB XPolyC. -/
import Derived.Test.YtncoimmjjfmhdaaGreatDoorWg
import Derived.Test.YtncoimmjjfmhdaaGreatDoorGrpP
set_option maxRecDepth 100000
namespace Go.Proofs.YtncoimmjjfmhdaaGreatDoor.eng
open Go.RowKit num mem seg q held ratA ratB ratC ratD ratE vars ratF
section
variable {K : AV → Prop}
theorem Zow {l:List (RV×RV)} (hl:∀ p,p∈l→p.1.z≤67108864∧p.2.z≤67108864) (i:Nat):qs (pts l i).1≤67108865∧qs (pts l i).2≤67108865:=by
 unfold pts
 cases h:l[i]? with
 |none=>simp only [Option.getD_none,z0q];exact⟨by decide+kernel,by decide+kernel⟩
 |some p=>
  simp only [Option.getD_some]
  have:=hl p (List.mem_of_getElem? h)
  have a:=p.1.z1;have b:=p.2.z1
  omega
theorem Zhm {f : Nat → Rat} {B : Nat} (h : ∀ i, qs (f i) ≤ B) : ∀ n, qs (poly.sumTo f n) ≤ n * (B + 1) + 8
  | 0 => by show qs (0 : Rat) ≤ _; have : qs (0 : Rat) ≤ 8 := by decide +kernel
            omega
  | n + 1 => by
    have := Zhm h n; have := h n; have := ZU (poly.sumTo f n) (f n)
    show qs (poly.sumTo f n + f n) ≤ _
    rw [Nat.add_mul]; omega
theorem Zo7 {a b:poly.Pt} {B:Nat} (ha:qs a.1≤B∧qs a.2≤B) (hb:qs b.1≤B∧qs b.2≤B):qs (poly.cr a b)≤4*B+4:=by
 unfold poly.cr
 have:=ZJ a.1 b.2;have:=ZJ a.2 b.1;have:=Zag (a.1*b.2) (a.2*b.1)
 omega
open Classical in
noncomputable def areaQ (l:List (RV×RV)):Rat:=if convE 64 l=0 then ((1:Int):Rat) / ((2:Int):Rat)*poly.ringSum (pts l) l.length else 0
theorem ZiB (l:List (RV×RV)) (hl:∀ p,p∈l→p.1.z≤67108864∧p.2.z≤67108864) (hn:l.length≤1073741824):Spec Tryz.prog Tab 33 [.val (.one (.d (.list (List.map rdv l))))] (rat (cn (areaQ l))):=by
 have hL:(List.map rdv l).length=l.length:=List.length_map ..
 refine Zh Tryz.func33 rfl rfl Tryz.ntmps33 rfl (by kernel_rfl) rfl rfl ?_
 refine k_of (0) (by omega) (by omega) fun q8 h8 z8=> ?_
 simp only [cn_z] at z8
 refine ZeA (l:=l) (by assumption) (by omega) (fun n10 hk_10_1=> ?_)
 refine⟨fun e1=> ?_,fun e1=> ?_⟩
 ·have f11:n10≠0:=Zdx e1
  refine Eq.trans (b:=rat (cn q8)) ?_ rfl
  rw [h8,areaQ,if_neg (by omega)];rfl
 ·have f11:¬ (n10≠0):=fun hh=>hh (Zdy e1)
  have hc:convE 64 l=0:=by omega
  obtain⟨c1,c2,_⟩:=ZbX.1 hc
  obtain rfl:q8=0:=by rw [h8];rfl
  refine⟨Nat,fun i=> [(0,.val (.one (.d (.list (List.map rdv l))))),(2,.val (.one (.ptr 2 0))),(3,.val (.one (.ptr 3 0))),(13,.val (.one (.d (.list (List.map rdv l))))),(14,int ((List.map rdv l).length:Int)),(15,int (i:Int))],
   fun i=> [(2,.var 24 [.d (.v (.bool z0.s)),.d (.v (.string z0.a)),.d (.v (.string z0.d))]),(3,.var 24 [.d (.v (.bool (cn (poly.sumTo (fun i=>poly.cr (pts l i) (pts l ((i+1) % l.length))) i)).s)),.d (.v (.string (cn (poly.sumTo (fun i=>poly.cr (pts l i) (pts l ((i+1) % l.length))) i)).a)),.d (.v (.string (cn (poly.sumTo (fun i=>poly.cr (pts l i) (pts l ((i+1) % l.length))) i)).d))])],fun i=>i≤l.length,fun i=>l.length - i,0,?_,Nat.zero_le _,fun i hs=> ?_⟩
  ·constructor<;>(repeat' (first|exact rfl|exact True.intro|exact⟨_,_,rfl⟩|exact(by decide)|apply And.intro))
   all_goals first|exact congrArg (fun n:Int=>D.v (.int .i64 n)) (by omega)|exact congrArg (fun n:Int=>D.v (.int .i64 n)) (by rw [wrap64 _ (by omega) (by omega)];omega)|(simp;done)
  have hq:=Zhm (f:=(fun i=>poly.cr (pts l i) (pts l ((i+1) % l.length)))) (B:=268435464) (fun j=>Nat.le_trans (Zo7 (Zow hl j) (Zow hl _)) (by decide)) i
  have hq2:i*(268435464+1)≤64*(268435464+1):=Nat.mul_le_mul_right _ (by omega)
  refine⟨fun e2=> ?_,fun e2=> ?_⟩
  ·have f16:(i:Int)< ((List.map rdv l).length:Int):=of_decide_eq_true e2
   obtain⟨x18,hx18⟩:∃ vv,l[i]? =some vv:=⟨_,List.getElem?_eq_getElem (by first|omega|exact Nat.mod_lt _ (by omega))⟩
   have hzx18:=hl x18 (List.mem_of_getElem? hx18)
   have hpx18:=Zci hx18
   refine k_ix i [D.v (.bool x18.1.s),D.v (.string x18.1.a),D.v (.string x18.1.d),D.v (.bool x18.2.s),D.v (.string x18.2.a),D.v (.string x18.2.d)] (by first|rfl|omega|(rw [wrap64 _ (by omega) (by omega)];omega)) (Zw hx18) rfl ?_
   refine ZkC (i+1) l.length (by first|rfl|omega|(rw [wrap64 _ (by omega) (by omega)];omega)) (by first|rfl|omega|(rw [wrap64 _ (by omega) (by omega)];omega)) (by omega) ?_
   obtain⟨x28,hx28⟩:∃ vv,l[((i+1) % l.length)]? =some vv:=⟨_,List.getElem?_eq_getElem (by first|omega|exact Nat.mod_lt _ (by omega))⟩
   have hzx28:=hl x28 (List.mem_of_getElem? hx28)
   have hpx28:=Zci hx28
   refine k_ix ((i+1) % l.length) [D.v (.bool x28.1.s),D.v (.string x28.1.a),D.v (.string x28.1.d),D.v (.bool x28.2.s),D.v (.string x28.2.a),D.v (.string x28.2.d)] (by first|rfl|omega|(rw [wrap64 _ (by omega) (by omega)];omega)) (Zw hx28) rfl ?_
   refine ZhE (x:=x18.1) (y:=x18.2) (z:=x28.1) (t:=x28.2) (by omega) (by omega) (by omega) (by omega) (fun q30 hk_30_1 hk_30_2=> ?_)
   simp only [cn_z] at hk_30_2
   refine ZbQ (x:=cn (poly.sumTo (fun i=>poly.cr (pts l i) (pts l ((i+1) % l.length))) i)) (y:=cn q30) (by simp only [cn_z];omega) (by simp only [cn_z];omega) fun q31 h31 z31=> ?_
   simp only [cn_z] at z31
   simp only [cn_q] at h31
   refine⟨by kernel_rfl,?_⟩
   obtain rfl:q31=poly.sumTo (fun i=>poly.cr (pts l i) (pts l ((i+1) % l.length))) (i+1):=by
    rw [h31,hk_30_1];show _=poly.sumTo (fun i=>poly.cr (pts l i) (pts l ((i+1) % l.length))) i+poly.cr (pts l i) (pts l ((i+1) % l.length));rw [hpx18,hpx28];rfl
   refine⟨i+1,by omega,by simp only;omega,?_⟩
   constructor<;>(repeat' (first|exact rfl|exact True.intro|apply And.intro))
   all_goals first
    |exact congrArg (fun n:Int=>D.v (.int .i64 n)) (by rw [wrap64 _ (by omega) (by omega)];omega)
    |exact congrArg (fun n:Int=>D.v (.int .i64 n)) (by omega)
  ·have f16:¬ ((i:Int)< ((List.map rdv l).length:Int)):=of_decide_eq_false e2
   refine ZoT  1 2 (by omega) (by omega) (by omega) (by omega) (by decide+kernel) (fun q34 hk_34_1 hk_34_2=> ?_)
   simp only [cn_z] at hk_34_2
   refine Za2 (x:=cn q34) (y:=cn (poly.sumTo (fun i=>poly.cr (pts l i) (pts l ((i+1) % l.length))) i)) (by simp only [cn_z];omega) (by simp only [cn_z];omega) fun q39 h39 z39=> ?_
   simp only [cn_z] at z39
   simp only [cn_q] at h39
   refine Eq.trans (b:=rat (cn q39)) ?_ rfl
   rw [h39,hk_34_1,areaQ,if_pos hc,show l.length=i by omega];rfl
theorem ZnQ {l:List (RV×RV)} (hl:∀ p,p∈l→p.1.z≤67108864∧p.2.z≤67108864) (hn:l.length≤1073741824) (k:∀ q,q=areaQ l→K (rat (cn q))):Ask 33 [vecs l] K:=use (ZiB l hl hn) rfl (k _ rfl)
end
end Go.Proofs.YtncoimmjjfmhdaaGreatDoor.eng
namespace Go.Proofs.YtncoimmjjfmhdaaGreatDoor.eng
open Go.RowKit num mem seg q held ratA ratB ratC ratD ratE vars ratF
section
variable {K : AV → Prop}
theorem ZbC (n m:Int) (h1:-9223372036854775808≤n) (h2:n≤9223372036854775807) (h3:-9223372036854775808≤m) (h4:m≤9223372036854775807):Spec Tryz.prog Tab 30 [int n,int m] (pair (cn (n:Rat)) (cn (m:Rat))):=by
 refine Zh Tryz.func30 rfl rfl Tryz.ntmps30 rfl (by kernel_rfl) rfl rfl ?_
 refine k_I (n) (by omega) (by omega) fun q6 h6 z6=> ?_
 simp only [cn_z] at z6
 refine k_I (m) (by omega) (by omega) fun q8 h8 z8=> ?_
 simp only [cn_z] at z8
 refine Eq.trans (b:=pair (cn q6) (cn q8)) ?_ rfl
 subst_vars;rfl
def cvl (m:List (Rat×Rat)):List (RV×RV):=m.map fun p=>(cn p.1,cn p.2)
theorem ZgM (m:List (Rat×Rat)):pts (cvl m)=fun i=>(m[i]?).getD (0,0):=by
 funext i
 unfold pts cvl
 rw [List.getElem?_map]
 cases m[i]? with
 |none=>simp [z0q]
 |some p=>simp [cn_q]
theorem ZhT {P:Nat→poly.Pt} {n:Nat} (h:((List.range n).all fun i=>(List.range n).all fun k=>decide (k< 2)||decide (0< poly.ori (P i) (P ((i+1) % n)) (P ((i+k) % n))))=true):poly.Edges P n:=by
 intro i k hi h2 hk
 rw [List.all_eq_true] at h
 have:=h i (List.mem_range.2 hi)
 rw [List.all_eq_true] at this
 have:=this k (List.mem_range.2 hk)
 simp only [Bool.or_eq_true,decide_eq_true_eq] at this
 rcases this with h3|h3
 ·omega
 ·exact h3
theorem Zo0 {m:List (Rat×Rat)} {B:Nat} (h:(m.all fun p=>decide (qs p.1≤B)&&decide (qs p.2≤B))=true):∀ p,p∈cvl m→p.1.z≤B∧p.2.z≤B:=by
 intro p hp
 obtain⟨q,hq,rfl⟩:=List.mem_map.1 hp
 have:=List.all_eq_true.1 h q hq
 simpa [cn_z] using this
def sqL (x y s:Int):List (Rat×Rat):= [((x:Rat),(y:Rat)),(((x+s:Int):Rat),(y:Rat)),(((x+s:Int):Rat),((y+s:Int):Rat)),((x:Rat),((y+s:Int):Rat))]
theorem ZcH (x y s:Int) (hx:0≤x∧x≤100) (hy:0≤y∧y≤100) (hs:0≤s∧s≤100):Spec Tryz.prog Tab 6 [int x,int y,int s] (.val (.one (.d (.list (List.map rdv (cvl (sqL x y s))))))):=by
 have w1:IntKind.i64.wrap (x+s)=x+s:=wrap64 _ (by omega) (by omega)
 have w2:IntKind.i64.wrap (y+s)=y+s:=wrap64 _ (by omega) (by omega)
 refine Zh Tryz.func6 rfl rfl Tryz.ntmps6 rfl (by kernel_rfl) rfl rfl ?_
 refine use (ZbC x y (by omega) (by omega) (by omega) (by omega)) rfl ?_
 refine use (ZbC (IntKind.i64.wrap (x+s)) y (by omega) (by omega) (by omega) (by omega)) rfl ?_
 refine use (ZbC (IntKind.i64.wrap (x+s)) (IntKind.i64.wrap (y+s)) (by omega) (by omega) (by omega) (by omega)) rfl ?_
 refine use (ZbC x (IntKind.i64.wrap (y+s)) (by omega) (by omega) (by omega) (by omega)) rfl ?_
 refine Eq.trans (b:= .val (.one (.d (.list ([[D.v (.bool (cn ((x:Int):Rat)).s),D.v (.string (cn ((x:Int):Rat)).a),D.v (.string (cn ((x:Int):Rat)).d),D.v (.bool (cn ((y:Int):Rat)).s),D.v (.string (cn ((y:Int):Rat)).a),D.v (.string (cn ((y:Int):Rat)).d)], [D.v (.bool (cn ((IntKind.i64.wrap (x+s):Int):Rat)).s),D.v (.string (cn ((IntKind.i64.wrap (x+s):Int):Rat)).a),D.v (.string (cn ((IntKind.i64.wrap (x+s):Int):Rat)).d),D.v (.bool (cn ((y:Int):Rat)).s),D.v (.string (cn ((y:Int):Rat)).a),D.v (.string (cn ((y:Int):Rat)).d)], [D.v (.bool (cn ((IntKind.i64.wrap (x+s):Int):Rat)).s),D.v (.string (cn ((IntKind.i64.wrap (x+s):Int):Rat)).a),D.v (.string (cn ((IntKind.i64.wrap (x+s):Int):Rat)).d),D.v (.bool (cn ((IntKind.i64.wrap (y+s):Int):Rat)).s),D.v (.string (cn ((IntKind.i64.wrap (y+s):Int):Rat)).a),D.v (.string (cn ((IntKind.i64.wrap (y+s):Int):Rat)).d)], [D.v (.bool (cn ((x:Int):Rat)).s),D.v (.string (cn ((x:Int):Rat)).a),D.v (.string (cn ((x:Int):Rat)).d),D.v (.bool (cn ((IntKind.i64.wrap (y+s):Int):Rat)).s),D.v (.string (cn ((IntKind.i64.wrap (y+s):Int):Rat)).a),D.v (.string (cn ((IntKind.i64.wrap (y+s):Int):Rat)).d)]]))))) ?_ rfl
 rw [w1,w2];rfl
theorem sq2:areaQ (cvl (sqL 0 0 2))=4∧convE 64 (cvl (sqL 0 0 2))=0:=by
 have h:convE 64 (cvl (sqL 0 0 2))=0:=ZbX.2 ⟨by decide,by decide,by rw [ZgM];exact ZhT (by decide+kernel)⟩
 refine⟨?_,h⟩
 rw [areaQ,if_pos h,ZgM]
 decide+kernel
theorem Zdu  :Spec Tryz.prog Tab 8 [] (bool true):=by
 refine Zh Tryz.func8 rfl rfl Tryz.ntmps8 rfl (by kernel_rfl) rfl rfl ?_
 refine ZiJ   ?_
 refine use (ZcH 0 0 2 (by decide) (by decide) (by decide)) rfl ?_
 refine ZnQ (l:=cvl (sqL 0 0 2)) (Zo0 (by decide+kernel)) (by decide) (fun q4 hk_4_1=> ?_)
 refine k_I (4) (by omega) (by omega) fun q5 h5 z5=> ?_
 simp only [cn_z] at z5
 refine ZgB (by rw [hk_4_1,h5,sq2.1];rfl) ?_
 refine Eq.trans (b:=bool true) ?_ rfl
 rfl
theorem Zgy (k:K (bool true)):Ask 8 [] K:=use Zdu rfl k
end
end Go.Proofs.YtncoimmjjfmhdaaGreatDoor.eng
