/- Joined by wip/bundle.py: XHulA XHulB XHulC XHulD. -/
import Derived.Test.YtncoimmjjfmhdaaGreatDoorGrpY
import Derived.Test.YtncoimmjjfmhdaaGreatDoorSrt0
import Derived.Test.YtncoimmjjfmhdaaGreatDoorGrpHa
import Derived.Test.YtncoimmjjfmhdaaGreatDoorSortV
import Derived.Test.YtncoimmjjfmhdaaGreatDoorGrpM
import Derived.Test.YtncoimmjjfmhdaaGreatDoorGrpN
import Derived.Test.YtncoimmjjfmhdaaGreatDoorPrf0
set_option maxRecDepth 100000
namespace Go.Proofs.YtncoimmjjfmhdaaGreatDoor.eng
open Go.RowKit num mem seg q held ratA ratB ratC ratD ratE vars ratF prf
section
variable {K : AV → Prop}
open poly (Pt)
open hull (pos sub push chain wrapL hullL)
def ptD (p:Pt):List D:=rdv (cn p.1,cn p.2)
def ptV (p:Pt):List Value:= [.bool (cn p.1).s,.string (cn p.1).a,.string (cn p.1).d,.bool (cn p.2).s,.string (cn p.2).a,.string (cn p.2).d]
theorem Zo8 (p:Pt):ptD p=(ptV p).map D.v:=rfl
def okV (p:Pt):Prop:=qs p.1≤67108864∧qs p.2≤67108864
def ordQ (a b:Pt):Int:=if cmpQ a.1 b.1=0 then cmpQ a.2 b.2 else cmpQ a.1 b.1
theorem ZfU (p q:Rat):(cmpQ p q< 0∧p< q)∨(cmpQ p q=0∧p=q)∨(0< cmpQ p q∧q< p):=by
 rcases hull.tri (p - q) with h|h|h
 ·left;exact⟨(Zk2 rfl).2 (by grind),by grind⟩
 ·right;left;exact⟨(Zdh rfl).2 (by grind),by grind⟩
 ·right;right;exact⟨(Zn8 rfl).2 (by grind),by grind⟩
theorem ZdP (a b:Pt):ordQ a b< 0↔pos (sub b a):=by
 rw [hull.pos_iff]
 unfold ordQ
 rcases ZfU a.1 b.1 with ⟨h1,h2⟩|⟨h1,h2⟩|⟨h1,h2⟩
 ·rw [if_neg (by omega)];exact⟨fun _=> .inl h2,fun _=>h1⟩
 ·rw [if_pos h1]
  rcases ZfU a.2 b.2 with ⟨g1,g2⟩|⟨g1,g2⟩|⟨g1,g2⟩
  ·exact⟨fun _=> .inr ⟨h2,g2⟩,fun _=>g1⟩
  ·exact⟨fun h=>by omega,fun h=>by rcases h with h|⟨_,h⟩<;>grind⟩
  ·exact⟨fun h=>by omega,fun h=>by rcases h with h|⟨_,h⟩<;>grind⟩
 ·rw [if_neg (by omega)];exact⟨fun h=>by omega,fun h=>by rcases h with h|⟨h,_⟩<;>grind⟩
theorem ZjE (x y z t:RV) (hx:x.z≤67108864) (hy:y.z≤67108864) (hz:z.z≤67108864) (ht:t.z≤67108864):Spec Tryz.prog Tab 71 [pair x y,pair z t] (bool (decide (x.q=z.q∧y.q=t.q))):=by
 refine Zh Tryz.func71 rfl rfl Tryz.ntmps71 rfl (by kernel_rfl) rfl rfl ?_
 refine Zbj (x:=x) (y:=z) (by omega) (by omega) fun n9 h9=> ?_
 refine fork (fun e1=> ?_) (fun e1=> ?_)
 ·have f11:x.q=z.q:=(Zdh h9).1 (ZeO e1)
  refine Zbj (x:=y) (y:=t) (by omega) (by omega) fun n16 h16=> ?_
  refine Eq.trans (b:=bool (n16==0)) ?_ rfl
  subst h16
  rw [show decide (x.q=z.q∧y.q=t.q)=(cmpQ y.q t.q==0) from by
   rw [Bool.eq_iff_iff];simp only [decide_eq_true_eq,beq_iff_eq]
   exact⟨fun h=>(Zdh rfl).2 h.2,fun h=>⟨f11,(Zdh rfl).1 h⟩⟩]
 ·have f11:¬ (x.q=z.q):=fun hh=>ZeP e1 ((Zdh h9).2 hh)
  refine Eq.trans (b:=bool false) ?_ rfl
  rw [decide_eq_false fun h=>f11 h.1]
theorem Zkz {p q:Pt} (hp:okV p) (hq:okV q) (k:∀ b,b=decide (p=q)→K (bool b)):Ask 71 [pair (cn p.1) (cn p.2),pair (cn q.1) (cn q.2)] K:=
 use (ZjE (cn p.1) (cn p.2) (cn q.1) (cn q.2) hp.1 hp.2 hq.1 hq.2) rfl (k _ (by
  simp only [cn_q]
  rw [Bool.eq_iff_iff];simp only [decide_eq_true_eq]
  exact⟨fun h=>Prod.ext h.1 h.2,fun h=>by rw [h];exact⟨rfl,rfl⟩⟩))
theorem ZiC (p q:Pt) (hp:okV p) (hq:okV q):Spec Tryz.prog Tab 69 [pair (cn p.1) (cn p.2),pair (cn q.1) (cn q.2)] (int (ordQ p q)):=by
 obtain⟨hp1,hp2⟩:=hp
 obtain⟨hq1,hq2⟩:=hq
 refine Zh Tryz.func69 rfl rfl Tryz.ntmps69 rfl (by kernel_rfl) rfl rfl ?_
 refine Zbj (x:=cn p.1) (y:=cn q.1) (by simp only [cn_z];omega) (by simp only [cn_z];omega) fun n10 h10=> ?_
 simp only [cn_q] at h10
 refine⟨fun e1=> ?_,fun e1=> ?_⟩
 ·have f12:¬ p.1=q.1:=fun hh=>Zdx e1 ((Zdh h10).2 hh)
  refine Eq.trans (b:=int n10) ?_ rfl
  unfold ordQ
  rw [if_neg (fun h=>f12 ((Zdh rfl).1 h)),h10]
 ·have f12:¬ (¬ p.1=q.1):=fun hh=>hh ((Zdh h10).1 (Zdy e1))
  refine Zbj (x:=cn p.2) (y:=cn q.2) (by simp only [cn_z];omega) (by simp only [cn_z];omega) fun n18 h18=> ?_
  simp only [cn_q] at h18
  refine Eq.trans (b:=int n18) ?_ rfl
  unfold ordQ
  rw [if_pos ((Zdh rfl).2 (Decidable.byContradiction f12)),h18]
instance:Inhabited { p:Pt // okV p }:=⟨⟨(0,0),by unfold okV;exact⟨by decide+kernel,by decide+kernel⟩⟩⟩
theorem Zj5:Go.Sort.SWO (ltOf fun (x y:{ p:Pt // okV p })=>ordQ x.1 y.1) where
 irrefl x:=by
  unfold ltOf
  rw [decide_eq_false]
  intro h
  have:=(ZdP _ _).1 h
  exact hull.ps_irr hull.half_pos this rfl
 trans x y z h1 h2:=by
  unfold ltOf at*
  have h1:=(ZdP _ _).1 (of_decide_eq_true h1)
  have h2:=(ZdP _ _).1 (of_decide_eq_true h2)
  exact decide_eq_true ((ZdP _ _).2 (hull.ps_trans hull.half_pos h2 h1))
 ntrans x y z h1 h2:=by
  unfold ltOf at*
  have h1:=of_decide_eq_false h1
  have h2:=of_decide_eq_false h2
  refine decide_eq_false fun h3=> ?_
  rw [ZdP] at h1 h2 h3
  rcases hull.ps_cases hull.half_pos x.1 y.1 with g|g|g
  ·exact h2 (hull.ps_trans hull.half_pos h3 g)
  ·rw [g] at h3;exact h2 h3
  ·exact h1 g
theorem Zl2 (p:Pt):∀ v,v∈ptV p→flat v=true:=by
 intro v hv
 simp only [ptV,List.mem_cons,List.not_mem_nil,or_false] at hv
 rcases hv with rfl|rfl|rfl|rfl|rfl|rfl<;>rfl
theorem ZlG (l:List Pt) (hl:∀ p,p∈l→okV p) (hn:l.length≤1048576):∃ l':List Pt,l'.Perm l∧l'.Pairwise (fun x y=>¬ pos (sub x y))∧
  SpecS Tryz.prog Tab 68 [.val (.one (.row 1000 0)),fv 69] 26 6 (l.map ptD) (.tup []) (l'.map ptD):=by
 have hL:(l.attachWith okV hl).length=l.length:=by simp
 have hval:(l.attachWith okV hl).map Subtype.val=l:=by
  apply List.ext_getElem
  ·simp
  ·intro i h1 h2;simp
 have hmap:(l.attachWith okV hl).map (fun x=>(ptV x.1).map D.v)=l.map ptD:=by
  have:(fun x:{ p:Pt // okV p }=>(ptV x.1).map D.v)=ptD ∘ Subtype.val:=rfl
  rw [this,← List.map_map,hval]
 obtain⟨l1,h1,h2,h3⟩:=Zju (fun (x y:{ p:Pt // okV p })=>ordQ x.1 y.1) Zj5 (l.attachWith okV hl)
 refine⟨l1.map Subtype.val,?_,?_,?_⟩
 ·have:=h1.map Subtype.val
  rwa [hval] at this
 ·rw [List.pairwise_map]
  exact h2.imp fun {a b} h g=>h ((ZdP _ _).2 g)
 ·have hs:=Zjv (P:=Tryz.prog) (G:=Tab) (k:=6) (enc:=fun x:{ p:Pt // okV p }=>ptV x.1) Tryz.sortVec Tryz.isAgg26 Tryz.sizeOf26 (fun _=>rfl) (by decide) (fun x=>Zl2 x.1) (fun x y=>ordQ x.1 y.1) Zj5 69
   (Zu Tryz.func69 rfl rfl) (fun x y w hG=>ZeN (ZiC x.1 y.1 x.2 y.2) rfl hG (Zgk rfl)) 26 (l.attachWith okV hl) (by rw [hL];omega)
  rw [h3,hmap] at hs
  have e:(l1.map Subtype.val).map ptD=l1.map fun x=>(ptV x.1).map D.v:=by rw [List.map_map];rfl
  rw [e]
  exact hs
def revK (l:List Pt) (i:Nat):List Pt:=(List.range l.length).map fun j=>if j< i∨l.length≤j+i then (l[l.length - 1 - j]?).getD (0,0) else (l[j]?).getD (0,0)
theorem Zat (l:List Pt) (i:Nat):(revK l i).length=l.length:=by simp [revK]
theorem ZbG {l:List Pt} {i j:Nat} (hj:j< l.length):(revK l i)[j]? =if j< i∨l.length≤j+i then l[l.length - 1 - j]? else l[j]? :=by
 unfold revK
 rw [List.getElem?_map,List.getElem?_range hj]
 simp only [Option.map_some]
 split
 ·rw [List.getElem?_eq_getElem (by omega)];rfl
 ·rw [List.getElem?_eq_getElem hj];rfl
theorem ZjO (l:List Pt):revK l 0=l:=by
 apply List.ext_getElem?
 intro j
 by_cases hj:j< l.length
 ·rw [ZbG hj,if_neg (by omega)]
 ·rw [List.getElem?_eq_none (by rw [Zat];omega),List.getElem?_eq_none (by omega)]
theorem ZlQ {l:List Pt} {i:Nat} (h:l.length≤2*i+1):revK l i=l.reverse:=by
 apply List.ext_getElem?
 intro j
 by_cases hj:j< l.length
 ·rw [ZbG hj,List.getElem?_reverse hj]
  split
  ·rfl
  ·rename_i hh
   congr 1;omega
 ·rw [List.getElem?_eq_none (by rw [Zat];omega),List.getElem?_eq_none (by simp;omega)]
theorem ZjN {l:List Pt} {i:Nat} {x y:Pt} (h:2*i+1< l.length) (hx:(revK l i)[l.length - 1 - i]? =some x) (hy:(revK l i)[i]? =some y):((revK l i).set i x).set (l.length - 1 - i) y=revK l (i+1):=by
 rw [ZbG (by omega),if_neg (by omega)] at hx hy
 apply List.ext_getElem?
 intro j
 by_cases hj:j< l.length
 ·rw [List.getElem?_set,List.getElem?_set,List.length_set,Zat,ZbG hj,ZbG hj]
  by_cases h1:l.length - 1 - i=j
  ·rw [if_pos h1,if_pos (by omega),if_pos (by omega),← hy];congr 1;omega
  ·rw [if_neg h1]
   by_cases h2:i=j
   ·rw [if_pos h2,if_pos (by omega),if_pos (by omega),← hx];congr 1;omega
   ·rw [if_neg h2]
    by_cases h3:j< i∨l.length≤j+i
    ·rw [if_pos h3,if_pos (by omega)]
    ·rw [if_neg h3,if_neg (by omega)]
 ·rw [List.getElem?_eq_none (by simp [Zat];omega),List.getElem?_eq_none (by rw [Zat];omega)]
set_option maxHeartbeats 2000000 in
theorem ZlP (l:List Pt) (hn:l.length≤1048576):SpecS Tryz.prog Tab 73 [.val (.one (.row 1000 0))] 26 6 (List.map ptD l) (.tup []) (List.map ptD l.reverse):=by
 have hL:(List.map ptD l).length=l.length:=List.length_map ..
 refine fn_S 0 [] Tryz.func73 rfl rfl Tryz.ntmps73 rfl (by kernel_rfl) rfl rfl rfl ?_
 refine⟨Nat,fun i=> [(0,.val (.one (.row 1000 0))),(2,int (i:Int)),(3,int ((l.length:Int) - 1 - (i:Int)))],
  fun i=> [(1000,.row 26 6 0 (List.map ptD (revK l i)) true)],fun i=>2*i≤l.length,fun i=>l.length - i,0,?_,Nat.zero_le _,fun i hs=> ?_⟩
 ·constructor<;>(repeat' (first|exact rfl|exact True.intro|exact⟨_,_,rfl⟩|exact(by decide)|apply And.intro))
  all_goals first
   |exact congrArg (List.map ptD) (ZjO l)
   |exact congrArg (List.map ptD) (ZjO l).symm
   |(rw [ZjO];done)
   |exact congrArg (fun n:Int=>D.v (.int .i64 n)) (by rw [List.length_map,wrap64 _ (by omega) (by omega)];omega)
   |exact congrArg (fun n:Int=>D.v (.int .i64 n)) (by rw [List.length_map,wrap64 _ (by omega) (by omega)];simp)
 have hK:(List.map ptD (revK l i)).length=l.length:=by rw [List.length_map,Zat]
 refine⟨fun e1=> ?_,fun e1=> ?_⟩
 ·have f9:(i:Int)< (l.length:Int) - 1 - (i:Int):=of_decide_eq_true e1
  refine k_at_own' (l.length - 1 - i) (by first|rfl|omega|(rw [wrap64 _ (by omega) (by omega)];omega)|(rw [wrap64 _ (by omega) (by omega)];split<;>omega)) (by first|omega|(simp only [List.length_set];omega)|(simp;omega)) ?_
  refine Z9 (l:=(revK l i)) (i:=(l.length - 1 - i)) (by rw [Zat];omega) fun x21 hx21=> ?_
  refine Zcp [D.v (.bool (cn x21.1).s),D.v (.string (cn x21.1).a),D.v (.string (cn x21.1).d),D.v (.bool (cn x21.2).s),D.v (.string (cn x21.2).a),D.v (.string (cn x21.2).d)] _ (Zw hx21) rfl rfl ?_
  refine k_at_own' i (by first|rfl|omega|(rw [wrap64 _ (by omega) (by omega)];omega)|(rw [wrap64 _ (by omega) (by omega)];split<;>omega)) (by first|omega|(simp only [List.length_set];omega)|(simp;omega)) ?_
  refine Z9 (l:=(revK l i)) (i:=i) (by rw [Zat];omega) fun x25 hx25=> ?_
  refine Zcp [D.v (.bool (cn x25.1).s),D.v (.string (cn x25.1).a),D.v (.string (cn x25.1).d),D.v (.bool (cn x25.2).s),D.v (.string (cn x25.2).a),D.v (.string (cn x25.2).d)] _ (Zw hx25) rfl rfl ?_
  refine k_at_own' i (by first|rfl|omega|(rw [wrap64 _ (by omega) (by omega)];omega)|(rw [wrap64 _ (by omega) (by omega)];split<;>omega)) (by first|omega|(simp only [List.length_set];omega)|(simp;omega)) ?_
  refine⟨by first|omega|(simp only [List.length_set];omega)|(simp;omega),?_⟩
  refine k_at_own' (l.length - 1 - i) (by first|rfl|omega|(rw [wrap64 _ (by omega) (by omega)];omega)|(rw [wrap64 _ (by omega) (by omega)];split<;>omega)) (by first|omega|(simp only [List.length_set];omega)|(simp;omega)) ?_
  refine⟨by first|omega|(simp only [List.length_set];omega)|(simp;omega),?_⟩
  refine⟨by kernel_rfl,?_⟩
  have hst:=ZjN (l:=l) (i:=i) (by omega) hx21 hx25
  refine⟨i+1,by omega,by simp only;omega,?_⟩
  constructor<;>(repeat' (first|exact rfl|exact True.intro|apply And.intro))
  all_goals first
   |(rw [← hst,List.map_set,List.map_set];rfl)
   |exact congrArg (fun n:Int=>D.v (.int .i64 n)) (by rw [wrap64 _ (by omega) (by omega)];omega)
   |exact congrArg (fun n:Int=>D.v (.int .i64 n)) (by omega)
 ·have f9:¬ ((i:Int)< (l.length:Int) - 1 - (i:Int)):=of_decide_eq_false e1
  refine⟨rfl,⟨_,rfl,?_⟩⟩
  exact congrArg (fun m=>Ob.row _ 6 0 (List.map ptD m) true) (ZlQ (by omega))
end
end Go.Proofs.YtncoimmjjfmhdaaGreatDoor.eng
namespace Go.Proofs.YtncoimmjjfmhdaaGreatDoor.eng
open Go.RowKit num mem seg q held ratA ratB ratC ratD ratE vars ratF prf
section
variable {K : AV → Prop}
open poly (Pt)
open hull (pos sub push chain wrapL hullL)
def kept (l:List Pt) (m:Nat):List Pt:=(List.range m).filterMap fun i=>if i=0∨l[i]? ≠l[i - 1]? then l[i]? else none
theorem Zc3 (l:List Pt) (m:Nat):kept l (m+1)=kept l m++(if m=0∨l[m]? ≠l[m - 1]? then l[m]? else none).toList:=by
 unfold kept
 rw [List.range_succ,List.filterMap_append]
 cases h:(if m=0∨l[m]? ≠l[m - 1]? then l[m]? else none)<;>simp [h]
theorem Zey (l:List Pt) (m:Nat):(kept l m).length≤m:=by
 have:=List.length_filterMap_le (fun i=>if i=0∨l[i]? ≠l[i - 1]? then l[i]? else none) (List.range m)
 simpa [kept] using this
theorem ZbO {l:List Pt} {m:Nat} {x:Pt} (hx:l[m]? =some x) (h:m=0∨l[m - 1]? ≠some x):kept l (m+1)=kept l m++ [x]:=by
 rw [Zc3,if_pos (by rcases h with h|h;exact .inl h;right;rw [hx];exact fun e=>h e.symm),hx];rfl
theorem Zb5 {l:List Pt} {m:Nat} {x:Pt} (h0:0< m) (hx:l[m]? =some x) (h:l[m - 1]? =some x):kept l (m+1)=kept l m:=by
 rw [Zc3,if_neg (by rintro(e|e);omega;rw [hx,h] at e;exact e rfl)];simp
theorem Za0 {l:List Pt}:∀ {m:Nat},m≤l.length→(∀ i,0< i→i< m→l[i]? ≠l[i - 1]?)→kept l m=l.take m
 |0,_,_=>rfl
 |m+1,h,hd=>by
  obtain⟨x,hx⟩:∃ x,l[m]? =some x:=⟨_,List.getElem?_eq_getElem (by omega)⟩
  rw [ZbO hx (by
   by_cases h0:m=0
   ·exact .inl h0
   ·right;rw [← hx];exact fun e=>hd m (by omega) (by omega) e.symm),Za0 (by omega) fun i h1 h2=>hd i h1 (by omega),List.take_add_one,hx];rfl
def cmpX (l:List Pt) (m:Nat):List Pt:=kept l m++l.drop (kept l m).length
theorem Zmy {l:List Pt} {m:Nat} (h:m≤l.length):(cmpX l m).length=l.length:=by
 have:=Zey l m
 simp only [cmpX,List.length_append,List.length_drop];omega
theorem Zoa {l:List Pt} {m i:Nat} (h:(kept l m).length≤i):(cmpX l m)[i]? =l[i]? :=by
 unfold cmpX
 rw [List.getElem?_append_right h,List.getElem?_drop]
 congr 1;omega
theorem Zlf {l:List Pt} {m:Nat} (h:m≤l.length) (hd:∀ i,0< i→i< m→l[i]? ≠l[i - 1]?):cmpX l m=l:=by
 unfold cmpX
 rw [Za0 h hd,List.length_take,Nat.min_eq_left h,List.take_append_drop]
theorem Zlg {l:List Pt} {m:Nat} {x:Pt} (h0:0< m) (hx:l[m]? =some x) (h:l[m - 1]? =some x):cmpX l (m+1)=cmpX l m:=by unfold cmpX;rw [Zb5 h0 hx h]
theorem Zmx {l:List Pt} {m:Nat} {x:Pt} (hx:l[m]? =some x) (h:l[m - 1]? ≠some x):(cmpX l m).set (kept l m).length x=cmpX l (m+1):=by
 have hk:=Zey l m
 have hm:m< l.length:=(List.getElem?_eq_some_iff.1 hx).1
 unfold cmpX
 rw [ZbO hx (.inr h),List.set_append_right _ _ (Nat.le_refl _),Nat.sub_self,List.length_append,List.length_singleton,List.append_assoc]
 congr 1
 obtain⟨y,r,e⟩:∃ y r,l.drop (kept l m).length=y :: r:=by
  cases e:l.drop (kept l m).length with
  |nil=>have:=congrArg List.length e;rw [List.length_drop] at this;simp at this;omega
  |cons y r=>exact⟨y,r,rfl⟩
 rw [e,List.set_cons_zero,← List.drop_drop,e];rfl
theorem Zkx {l:List Pt} {k:Nat} {x:Pt} (h0:0< k) (hx:l[k]? =some x) (h:l[k - 1]? =some x):∀ j,1≤j→(kept l (k+j)).length< k+j
 |1,_=>by rw [Zb5 h0 hx h];have:=Zey l k;omega
 |j+2,_=>by
  have ih:=Zkx h0 hx h (j+1) (by omega)
  have:(kept l (k+(j+1)+1)).length≤(kept l (k+(j+1))).length+1:=by
   rw [Zc3,List.length_append]
   have:(if k+(j+1)=0∨l[k+(j+1)]? ≠l[k+(j+1) - 1]? then l[k+(j+1)]? else none).toList.length≤1:=by split<;>simp [Option.length_toList];split<;>omega
   omega
  rw [show k+(j+2)=k+(j+1)+1 by omega];omega
set_option maxHeartbeats 4000000 in
theorem ZiV (l:List Pt) (hl:∀ p,p∈l→okV p) (hn:l.length≤1048576):SpecT Tryz.prog Tab 70 [.val (.one (.row 1000 0)),fv 71] 26 6 (List.map ptD l) 26 6 (List.map ptD (kept l l.length)):=by
 have hL:(List.map ptD l).length=l.length:=List.length_map ..
 refine fn_T [] Tryz.func70 rfl rfl Tryz.ntmps70 rfl (by kernel_rfl) rfl rfl ?_
 refine⟨fun e1=> ?_,fun e1=> ?_⟩
 ·have f10:((List.map ptD l).length:Int)< 2:=of_decide_eq_true e1
  rw [Za0 (Nat.le_refl _) (fun i h1 h2=>by omega),List.take_length]
  exact rfl
 ·have f10:¬ (((List.map ptD l).length:Int)< 2):=of_decide_eq_false e1
  refine⟨Nat,fun i=> [(0,.val (.one (.row 1000 0))),(1,fv 71),(5,int (i:Int))],
   fun i=> [(1000,.row 26 6 0 (List.map ptD l) true)],fun i=>1≤i∧i≤l.length∧∀ j,0< j→j< i→l[j]? ≠l[j - 1]?,fun i=>l.length - i,1,?_,⟨by omega,by omega,fun j h1 h2=>by omega⟩,fun i hs=> ?_⟩
  ·constructor<;>(repeat' (first|exact rfl|exact True.intro|exact⟨_,_,rfl⟩|exact(by decide)|apply And.intro))
   all_goals first|exact congrArg (fun n:Int=>D.v (.int .i64 n)) (by omega)|exact congrArg (fun n:Int=>D.v (.int .i64 n)) (by rw [wrap64 _ (by omega) (by omega)];omega)|(simp;done)
  obtain⟨g0,g1,g2⟩:=hs
  refine⟨fun e2=> ?_,fun e2=> ?_⟩
  ·have f15:(i:Int)< ((List.map ptD l).length:Int):=of_decide_eq_true e2
   refine k_at_own' i (by first|rfl|omega|(rw [wrap64 _ (by omega) (by omega)];omega)|(rw [wrap64 _ (by omega) (by omega)];split<;>omega)) (by first|omega|(simp only [List.length_set];omega)|(simp;omega)) ?_
   refine Z9 (l:=l) (i:=i) (by first|omega|exact Nat.mod_lt _ (by omega)) fun x22 hx22=> ?_
   refine Zcp [D.v (.bool (cn x22.1).s),D.v (.string (cn x22.1).a),D.v (.string (cn x22.1).d),D.v (.bool (cn x22.2).s),D.v (.string (cn x22.2).a),D.v (.string (cn x22.2).d)] _ (Zw hx22) rfl rfl ?_
   refine k_at_own' (i - 1) (by first|rfl|omega|(rw [wrap64 _ (by omega) (by omega)];omega)|(rw [wrap64 _ (by omega) (by omega)];split<;>omega)) (by first|omega|(simp only [List.length_set];omega)|(simp;omega)) ?_
   refine Z9 (l:=l) (i:=(i - 1)) (by first|omega|exact Nat.mod_lt _ (by omega)) fun x27 hx27=> ?_
   refine Zcp [D.v (.bool (cn x27.1).s),D.v (.string (cn x27.1).a),D.v (.string (cn x27.1).d),D.v (.bool (cn x27.2).s),D.v (.string (cn x27.2).a),D.v (.string (cn x27.2).d)] _ (Zw hx27) rfl rfl ?_
   refine Zkz (p:=x22) (q:=x27) (hl _ (List.mem_of_getElem? hx22)) (hl _ (List.mem_of_getElem? hx27)) fun b28 h28=> ?_
   refine⟨by kernel_rfl,?_⟩
   refine⟨fun e3=> ?_,fun e3=> ?_⟩
   ·have f28:x22=x27:=of_decide_eq_true (h28.symm.trans e3)
    refine⟨_,⟨by first|omega|decide,by first|omega|(simp;omega)|simp,rfl⟩,?_⟩
    have e27:x22=x27:=f28
    have hk1:=Zb5 (l:=l) (m:=i) (by omega) hx22 (by rw [e27];exact hx27)
    have hkt:=Za0 (l:=l) (m:=i) (by omega) g2
    have hkl:(kept l (i+1)).length=i:=by rw [hk1,hkt,List.length_take];omega
    have hct:=(Zlg (l:=l) (m:=i) (by omega) hx22 (by rw [e27];exact hx27)).trans (Zlf (by omega) g2)
    refine⟨Nat,fun j=> [(0,.val (.one (.row 1000 0))),(1,fv 71),(5,int ((kept l (i+j)).length:Int)),(6,.val (.one (.rs 1000 0 6 i))),(7,int (j:Int))],
     fun j=> [(1000,.row 26 6 0 (List.map ptD (cmpX l (i+j))) true)],fun j=>1≤j∧i+j≤l.length,fun j=>l.length - j,1,?_,⟨by omega,by omega⟩,fun j hs=> ?_⟩
    ·constructor<;>(repeat' (first|exact rfl|exact True.intro|exact⟨_,_,rfl⟩|exact(by decide)|apply And.intro))
     all_goals first
      |exact congrArg (fun n:Int=>D.v (.int .i64 n)) (by rw [hkl])
      |(rw [hct];done)
      |exact congrArg (List.map ptD) hct
      |exact congrArg (List.map ptD) hct.symm
      |exact Int.toNat_natCast i
      |exact(Int.toNat_natCast i).symm
    obtain⟨j1,j2⟩:=hs
    have hke:=Zkx (l:=l) (k:=i) (by omega) hx22 (by rw [f28];exact hx27) j j1
    have hcl2:=Zmy (l:=l) j2
    have hcl:(List.map ptD (cmpX l (i+j))).length=l.length:=by rw [List.length_map,hcl2]
    have hw1:IntKind.i64.wrap ((j:Int) - 1)=(j:Int) - 1:=wrap64 _ (by omega) (by omega)
    have cX:∀ (q:Nat) {x:Pt},(kept l (i+j)).length≤q→l[q]? =some x→(cmpX l (i+j))[q]? =some x:=fun q x h1 h2=>by rw [Zoa h1];exact h2
    refine⟨fun e4=> ?_,fun e4=> ?_⟩
    ·have f35:(j:Int)< (((List.map ptD (cmpX l (i+j))).length - i:Nat):Int):=of_decide_eq_true e4
     refine⟨_,⟨by omega,by first|omega|(simp;omega),rfl⟩,?_⟩
     refine Z9 (l:=l) (i:=(i+j)) (by first|omega|exact Nat.mod_lt _ (by omega)) fun x42 hx42=> ?_
     refine Zcp [D.v (.bool (cn x42.1).s),D.v (.string (cn x42.1).a),D.v (.string (cn x42.1).d),D.v (.bool (cn x42.2).s),D.v (.string (cn x42.2).a),D.v (.string (cn x42.2).d)] _ (Zw (cX _ (by omega) hx42)) rfl rfl ?_
     refine⟨_,⟨by omega,by first|omega|(simp;omega),rfl⟩,?_⟩
     refine Z9 (l:=l) (i:=(i+j - 1)) (by first|omega|exact Nat.mod_lt _ (by omega)) fun x47 hx47=> ?_
     refine Zcp [D.v (.bool (cn x47.1).s),D.v (.string (cn x47.1).a),D.v (.string (cn x47.1).d),D.v (.bool (cn x47.2).s),D.v (.string (cn x47.2).a),D.v (.string (cn x47.2).d)] _ (Zw (by rw [hw1,show i+((j:Int) - 1).toNat=i+j - 1 by omega];exact cX _ (by omega) hx47)) rfl rfl ?_
     refine Zkz (p:=x42) (q:=x47) (hl _ (List.mem_of_getElem? hx42)) (hl _ (List.mem_of_getElem? hx47)) fun b48 h48=> ?_
     refine⟨by kernel_rfl,?_⟩
     refine⟨fun e5=> ?_,fun e5=> ?_⟩
     ·have f49:¬ (x42=x47):=of_decide_eq_false (h48.symm.trans (Zo9 e5))
      refine⟨_,⟨by omega,by first|omega|(simp;omega),rfl⟩,?_⟩
      refine Zcp [D.v (.bool (cn x42.1).s),D.v (.string (cn x42.1).a),D.v (.string (cn x42.1).d),D.v (.bool (cn x42.2).s),D.v (.string (cn x42.2).a),D.v (.string (cn x42.2).d)] _ (Zw (cX _ (by omega) hx42)) rfl rfl ?_
      refine k_at_own' ((((kept l (i+j)).length:Int)).toNat) (by first|rfl|omega|(rw [wrap64 _ (by omega) (by omega)];omega)|(rw [wrap64 _ (by omega) (by omega)];split<;>omega)) (by first|omega|(simp only [List.length_set];omega)|(simp;omega)) ?_
      refine⟨by first|omega|(simp only [List.length_set];omega)|(simp;omega),?_⟩
      have hkk:=ZbO hx42 (.inr (by rw [hx47];exact fun e=>f49 (Option.some.inj e).symm))
      have hcc:=Zmx hx42 (by rw [hx47];exact fun e=>f49 (Option.some.inj e).symm)
      refine⟨j+1,by omega,by simp only;omega,?_⟩
      constructor<;>(repeat' (first|exact rfl|exact True.intro|apply And.intro))
      all_goals first
       |(rw [Nat.add_assoc] at hcc;rw [← hcc,List.map_set];rfl)
       |exact congrArg (fun n:Int=>D.v (.int .i64 n)) (by rw [wrap64 _ (by omega) (by omega),← Nat.add_assoc,hkk,List.length_append];simp)
       |exact congrArg (fun n:Int=>D.v (.int .i64 n)) (by rw [wrap64 _ (by omega) (by omega)];omega)
       |exact congrArg (fun n:Int=>D.v (.int .i64 n)) (by omega)
     ·have f49:¬ (¬ (x42=x47)):=fun hh=>hh (of_decide_eq_true (h48.symm.trans (Zpa e5)))
      have e47:x42=x47:=Decidable.byContradiction f49
      have hkk:=Zb5 (l:=l) (m:=i+j) (by omega) hx42 (by rw [e47];exact hx47)
      have hcc:=Zlg (l:=l) (m:=i+j) (by omega) hx42 (by rw [e47];exact hx47)
      refine⟨j+1,by omega,by simp only;omega,?_⟩
      constructor<;>(repeat' (first|exact rfl|exact True.intro|apply And.intro))
      all_goals first
       |(rw [Nat.add_assoc] at hcc;rw [hcc];done)
       |exact congrArg (fun n:Int=>D.v (.int .i64 n)) (by rw [← Nat.add_assoc,hkk])
       |(rw [Nat.add_assoc] at hkk;rw [hkk];done)
       |exact congrArg (fun n:Int=>D.v (.int .i64 n)) (by rw [wrap64 _ (by omega) (by omega)];omega)
       |exact congrArg (fun n:Int=>D.v (.int .i64 n)) (by omega)
    ·have f35:¬ ((j:Int)< (((List.map ptD (cmpX l (i+j))).length - i:Nat):Int)):=of_decide_eq_false e4
     refine⟨_,⟨by first|omega|decide,by first|omega|(simp;omega)|simp,rfl⟩,?_⟩
     refine⟨⟨by first|omega|decide,by first|omega|(simp only [List.length_append,List.length_take,List.length_replicate,List.length_map];omega)|(simp;omega)|simp⟩,?_⟩
     have hik:i+j=l.length:=by omega
     rw [hik] at*
     exact congrArg (fun m=>Ob.row _ 6 _ m true) (by simp [cmpX])
   ·have f28:¬ (x22=x27):=of_decide_eq_false (h28.symm.trans e3)
    refine⟨i+1,⟨by omega,by omega,fun j h1 h2=>by
     by_cases e:j=i
     ·subst e;rw [hx22,hx27];exact fun e=>f28 (Option.some.inj e)
     ·exact g2 j h1 (by omega)⟩,by simp only;omega,?_⟩
    constructor<;>(repeat' (first|exact rfl|exact True.intro|apply And.intro))
    all_goals first
     |exact congrArg (fun n:Int=>D.v (.int .i64 n)) (by rw [wrap64 _ (by omega) (by omega)];omega)
     |exact congrArg (fun n:Int=>D.v (.int .i64 n)) (by omega)
  ·have f15:¬ ((i:Int)< ((List.map ptD l).length:Int)):=of_decide_eq_false e2
   rw [Za0 (Nat.le_refl _) (fun j h1 h2=>g2 j h1 (by omega)),List.take_length]
   exact rfl
end
end Go.Proofs.YtncoimmjjfmhdaaGreatDoor.eng
namespace Go.Proofs.YtncoimmjjfmhdaaGreatDoor.eng
open Go.RowKit num mem seg q held ratA ratB ratC ratD ratE vars ratF prf
section
variable {K : AV → Prop}
open poly (Pt ori)
open hull (pos sub push chain wrapL hullL)
def topP (s:List Pt):Pt:=(s[0]?).getD (0,0)
def secP (s:List Pt):Pt:=(s[1]?).getD (0,0)
theorem ZmM {O s:List Pt} (h:0< s.length):(O++s.reverse)[O.length+s.length - 1]? =some (topP s):=by
 rw [List.getElem?_append_right (by omega),List.getElem?_reverse (by omega),show s.length - 1 - (O.length+s.length - 1 - O.length)=0 by omega]
 unfold topP;rw [List.getElem?_eq_getElem h];rfl
theorem ZmP {O s:List Pt} (h:1< s.length):(O++s.reverse)[O.length+s.length - 2]? =some (secP s):=by
 rw [List.getElem?_append_right (by omega),List.getElem?_reverse (by omega),show s.length - 1 - (O.length+s.length - 2 - O.length)=1 by omega]
 unfold secP;rw [List.getElem?_eq_getElem h];rfl
theorem ok_0:okV (0,0):=by unfold okV;exact⟨by decide+kernel,by decide+kernel⟩
theorem Zht {s l:List Pt} (hl:∀ p,p∈l→okV p) (h:∀ q,q∈s→q∈l):okV (topP s):=by
 unfold topP
 cases e:s[0]? with
 |none=>exact ok_0
 |some x=>exact hl x (h x (List.mem_of_getElem? e))
theorem Zhu {s l:List Pt} (hl:∀ p,p∈l→okV p) (h:∀ q,q∈s→q∈l):okV (secP s):=by
 unfold secP
 cases e:s[1]? with
 |none=>exact ok_0
 |some x=>exact hl x (h x (List.mem_of_getElem? e))
theorem Zhp {p:Pt} {s:List Pt} (h:1< s.length) (ho:ori (secP s) (topP s) p≤0):push p s=push p s.tail:=by
 match s,h with
 |a :: b :: r,_=>rw [hull.push];exact if_pos ho
theorem Zfk {p:Pt} {s:List Pt} (h:1< s.length) (ho:¬ ori (secP s) (topP s) p≤0):push p s=p :: s:=by
 match s,h with
 |a :: b :: r,_=>rw [hull.push];exact if_neg ho
theorem ZdN {p:Pt} {s:List Pt} (h:¬ 1< s.length):push p s=p :: s:=by
 match s,h with
 | [],_=>rfl
 | [a],_=>rfl
 |_ :: _ :: _,h=>exact absurd (by simp) h
theorem Zbi {O s:List Pt} {n:Nat} (h:0< s.length) (hn:n=O.length+s.length - 1):(List.map ptD (O++s.reverse)).take n=List.map ptD (O++s.tail.reverse):=by
 match s,h with
 |a :: r,_=>
  rw [← List.map_take]
  congr 1
  rw [List.reverse_cons,← List.append_assoc,hn,List.tail_cons,List.take_left' (by first|(simp;done)|(simp;omega))]
theorem Zaf {l:List Pt} {i:Nat} {x:Pt} (h:l[i]? =some x):chain (l.take (i+1))=push x (chain (l.take i)):=by
 unfold hull.chain
 rw [List.take_add_one,h];simp [List.foldl_append]
theorem Zhq (p:Pt):∀ s:List Pt,(push p s).length≤s.length+1
 | []=>by simp [hull.push]
 | [a]=>by simp [hull.push]
 |a :: b :: r=>by
  rw [hull.push]
  split
  ·have:=Zhq p (b :: r);simp only [List.length_cons] at*;omega
  ·simp
theorem ZbY (l:List Pt):∀ i,i≤l.length→(chain (l.take i)).length≤i
 |0,_=>by simp [hull.chain]
 |i+1,h=>by
  have ih:=ZbY l i (by omega)
  rw [Zaf (List.getElem?_eq_getElem (by omega:i< l.length))]
  have:=Zhq (l[i]'(by omega)) (chain (l.take i));omega
theorem ZfW {l:List Pt} (h:0< l.length):0< (chain l).length:=by
 obtain⟨n,hn⟩:∃ n,l.length=n+1:=⟨l.length - 1,by omega⟩
 have e:l=l.take (n+1):=by rw [← hn,List.take_length]
 rw [e,Zaf (List.getElem?_eq_getElem (by omega:n< l.length))]
 obtain⟨r,hr⟩:=hull.push_head (l[n]'(by omega)) (chain (l.take n))
 rw [hr];simp
theorem Zb8 (l:List Pt):∀ i,i≤l.length→∀ q,q∈chain (l.take i)→q∈l
 |0,_,q,h=>by simp [hull.chain] at h
 |i+1,hi,q,h=>by
  rw [Zaf (List.getElem?_eq_getElem (by omega:i< l.length))] at h
  rcases hull.push_mem _ _ q h with e|e
  ·rw [e];exact List.getElem_mem _
  ·exact Zb8 l i (by omega) q e
theorem ZkS (l:List Pt):∀ r,r∈List.map ptD l→∀ d,d∈r→∃ v,d=D.v v:=by
 intro r hr d hd
 obtain⟨p,_,rfl⟩:=List.mem_map.1 hr
 rw [Zo8] at hd
 obtain⟨v,_,rfl⟩:=List.mem_map.1 hd
 exact⟨v,rfl⟩
set_option maxHeartbeats 4000000 in
theorem ZgR (l:List Pt) (hl:∀ p,p∈l→okV p) (hn:l.length≤1048576) (hp0:0< l.length):SpecR Tryz.prog Tab 72 [.val (.one (.d (.v (.slice none 0 0)))),.val (.one (.d (.list (List.map ptD l))))] 26 6 (List.map ptD (chain l).tail.reverse):=by
 have hLl:(List.map ptD l).length=l.length:=List.length_map ..
 have h00:([]:List Pt).length=0:=rfl
 refine Zm8 Tryz.func72 rfl rfl Tryz.ntmps72 rfl (by kernel_rfl) rfl rfl ?_
 refine⟨Nat,fun i=> [(0,.val (.one (.row 46 0))),(5,int 0),(10,.val (.one (.d (.list (List.map ptD l))))),(11,int ((List.map ptD l).length:Int)),(12,int (i:Int))],
  fun i=> [(46,.row 26 6 0 (List.map ptD (([]:List Pt)++(chain (l.take i)).reverse)) true)],fun i=>i≤l.length,fun i=>l.length - i,0,?_,Nat.zero_le _,fun i hs=> ?_⟩
 ·constructor<;>(repeat' (first|exact rfl|exact True.intro|exact⟨_,_,rfl⟩|exact(by decide)|apply And.intro))
  all_goals first
   |exact congrArg (List.map ptD) (List.append_nil O).symm
   |exact congrArg (List.map ptD) (List.append_nil O)
   |(simp [hull.chain];done)
 have hil:i≤l.length:=hs
 have hci:=ZbY l i hil
 have hXo:(List.map ptD (([]:List Pt)++(chain (l.take i)).reverse)).length=0+(chain (l.take i)).length:=by simp
 refine⟨fun e1=> ?_,fun e1=> ?_⟩
 ·have f13:(i:Int)< ((List.map ptD l).length:Int):=of_decide_eq_true e1
  refine Z9 (l:=l) (i:=i) (by first|omega|exact Nat.mod_lt _ (by omega)) fun x14 hx14=> ?_
  have hzax14:=(hl x14 (List.mem_of_getElem? hx14)).1
  have hzbx14:=(hl x14 (List.mem_of_getElem? hx14)).2
  refine k_ix i [D.v (.bool (cn x14.1).s),D.v (.string (cn x14.1).a),D.v (.string (cn x14.1).d),D.v (.bool (cn x14.2).s),D.v (.string (cn x14.2).a),D.v (.string (cn x14.2).d)] (by first|rfl|omega|(rw [wrap64 _ (by omega) (by omega)];omega)|(rw [wrap64 _ (by omega) (by omega)];split<;>omega)) (Zw hx14) rfl ?_
  refine⟨List Pt,fun s=> [(0,.val (.one (.row 46 0))),(5,int 0),(7,.val (.one (.ptr 7 0))),(10,.val (.one (.d (.list (List.map ptD l))))),(11,int ((List.map ptD l).length:Int)),(12,int (i:Int))],
   fun s=> [(7,.var 26 [.d (.v (.bool (cn x14.1).s)),.d (.v (.string (cn x14.1).a)),.d (.v (.string (cn x14.1).d)),.d (.v (.bool (cn x14.2).s)),.d (.v (.string (cn x14.2).a)),.d (.v (.string (cn x14.2).d))]),(46,.row 26 6 0 (List.map ptD (([]:List Pt)++s.reverse)) true)],fun s=>push x14 s=push x14 (chain (l.take i))∧(∀ q,q∈s→q∈l)∧s.length≤i,fun s=>s.length,(chain (l.take i)),?_,⟨rfl,fun q hq=>Zb8 l i hil q hq,hci⟩,fun s hs=> ?_⟩
  ·constructor<;>(repeat' (first|exact rfl|exact True.intro|exact⟨_,_,rfl⟩|exact(by decide)|apply And.intro))
   all_goals first|exact congrArg (fun n:Int=>D.v (.int .i64 n)) (by omega)|exact congrArg (fun n:Int=>D.v (.int .i64 n)) (by rw [wrap64 _ (by omega) (by omega)];omega)|(simp;done)
  have hs1:=hs.1
  have hs2:=hs.2.1
  have hs3:=hs.2.2
  have hX:(List.map ptD (([]:List Pt)++s.reverse)).length=0+s.length:=by simp
  have t1:=(Zht hl hs2).1
  have t2:=(Zht hl hs2).2
  have t3:=(Zhu hl hs2).1
  have t4:=(Zhu hl hs2).2
  refine fork (fun e2=> ?_) (fun e2=> ?_)
  ·have f21:((List.map ptD (([]:List Pt)++s.reverse)).length:Int) >1:=of_decide_eq_true e2
   refine k_at_own' (s.length - 2) (by first|rfl|omega|(rw [wrap64 _ (by omega) (by omega)];omega)|(rw [wrap64 _ (by omega) (by omega)];split<;>omega)) (by first|omega|(simp only [List.length_set];omega)|(simp;omega)) ?_
   refine Zcp [D.v (.bool (cn (secP s).1).s),D.v (.string (cn (secP s).1).a),D.v (.string (cn (secP s).1).d),D.v (.bool (cn (secP s).2).s),D.v (.string (cn (secP s).2).a),D.v (.string (cn (secP s).2).d)] _ (Zw (by have h:=ZmP (O:= []) (s:=s) (by omega);simpa using h)) rfl rfl ?_
   refine k_at_own' (s.length - 1) (by first|rfl|omega|(rw [wrap64 _ (by omega) (by omega)];omega)|(rw [wrap64 _ (by omega) (by omega)];split<;>omega)) (by first|omega|(simp only [List.length_set];omega)|(simp;omega)) ?_
   refine Zcp [D.v (.bool (cn (topP s).1).s),D.v (.string (cn (topP s).1).a),D.v (.string (cn (topP s).1).d),D.v (.bool (cn (topP s).2).s),D.v (.string (cn (topP s).2).a),D.v (.string (cn (topP s).2).d)] _ (Zw (by have h:=ZmM (O:= []) (s:=s) (by omega);simpa using h)) rfl rfl ?_
   refine ZkE (x:=cn (secP s).1) (y:=cn (secP s).2) (z:=cn (topP s).1) (t:=cn (topP s).2) (u:=cn x14.1) (v:=cn x14.2) (by simp only [cn_z];omega) (by simp only [cn_z];omega) (by simp only [cn_z];omega) (by simp only [cn_z];omega) (by simp only [cn_z];omega) (by simp only [cn_z];omega) (fun n35 hk_35_1=> ?_)
   try simp only [cn_q] at hk_35_1
   refine⟨by kernel_rfl,?_⟩
   refine⟨fun e3=> ?_,fun e3=> ?_⟩
   ·have f37:(((topP s).1) - ((secP s).1))*(x14.2 - ((secP s).2)) - (((topP s).2) - ((secP s).2))*(x14.1 - ((secP s).1))≤0:=(Zcf hk_35_1).1 (of_decide_eq_true e3)
    have hw1:IntKind.i64.wrap (((List.map ptD (([]:List Pt)++s.reverse)).length:Int) - 1)=((List.map ptD (([]:List Pt)++s.reverse)).length:Int) - 1:=wrap64 _ (by omega) (by omega)
    refine⟨⟨by first|omega|decide,by first|omega|(simp only [List.length_append,List.length_take,List.length_replicate,List.length_map];omega)|(simp;omega)|simp⟩,?_⟩
    refine⟨s.tail,⟨(Zhp (by omega) f37).symm.trans hs1,fun q hq=>hs2 q (List.mem_of_mem_tail hq),by rw [List.length_tail];omega⟩,by simp only [List.length_tail];omega,?_⟩
    constructor<;>(repeat' (first|exact rfl|exact True.intro|apply And.intro))
    all_goals first
     |exact Zbi (by omega) (by omega)
     |exact(Zbi (by omega) (by omega)).symm
     |exact congrArg (fun n:Int=>D.v (.int .i64 n)) (by rw [wrap64 _ (by omega) (by omega)];omega)
     |exact congrArg (fun n:Int=>D.v (.int .i64 n)) (by omega)
   ·have f37:¬ ((((topP s).1) - ((secP s).1))*(x14.2 - ((secP s).2)) - (((topP s).2) - ((secP s).2))*(x14.1 - ((secP s).1))≤0):=fun hh=>of_decide_eq_false e3 ((Zcf hk_35_1).2 hh)
    refine⟨⟨row1 rfl,(by show ((List.map ptD (([]:List Pt)++s.reverse)).length+1)*80≤_;omega),(by show ((List.map ptD (([]:List Pt)++s.reverse)).length+1)≤_;omega)⟩,?_⟩
    have hps:=(Zaf hx14).trans (hs1.symm.trans (Zfk (by omega) f37))
    refine⟨i+1,by omega,by simp only;omega,?_⟩
    constructor<;>(repeat' (first|exact rfl|exact True.intro|apply And.intro))
    all_goals first
     |(rw [hps,List.reverse_cons,← List.append_assoc,List.map_append];rfl)
     |(rw [hps,List.reverse_cons,List.map_append,List.map_append,List.map_append,List.append_assoc];rfl)
     |exact congrArg (fun n:Int=>D.v (.int .i64 n)) (by rw [wrap64 _ (by omega) (by omega)];omega)
     |exact congrArg (fun n:Int=>D.v (.int .i64 n)) (by omega)
  ·have f21:¬ (((List.map ptD (([]:List Pt)++s.reverse)).length:Int) >1):=of_decide_eq_false e2
   refine⟨by kernel_rfl,?_⟩
   refine⟨fun e=>absurd e (by decide),fun _=> ?_⟩
   refine⟨⟨row1 rfl,(by show ((List.map ptD (([]:List Pt)++s.reverse)).length+1)*80≤_;omega),(by show ((List.map ptD (([]:List Pt)++s.reverse)).length+1)≤_;omega)⟩,?_⟩
   have hps:=(Zaf hx14).trans (hs1.symm.trans (ZdN (by omega)))
   refine⟨i+1,by omega,by simp only;omega,?_⟩
   constructor<;>(repeat' (first|exact rfl|exact True.intro|apply And.intro))
   all_goals first
    |(rw [hps,List.reverse_cons,← List.append_assoc,List.map_append];rfl)
    |(rw [hps,List.reverse_cons,List.map_append,List.map_append,List.map_append,List.append_assoc];rfl)
    |exact congrArg (fun n:Int=>D.v (.int .i64 n)) (by rw [wrap64 _ (by omega) (by omega)];omega)
    |exact congrArg (fun n:Int=>D.v (.int .i64 n)) (by omega)
 ·have f13:¬ ((i:Int)< ((List.map ptD l).length:Int)):=of_decide_eq_false e1
  have hcp:0< (chain (l.take i)).length:=by
   obtain rfl:i=l.length:=by omega
   rw [List.take_length];exact ZfW hp0
  have hw2:IntKind.i64.wrap (((List.map ptD (([]:List Pt)++(chain (l.take i)).reverse)).length:Int) - 1)=((List.map ptD (([]:List Pt)++(chain (l.take i)).reverse)).length:Int) - 1:=wrap64 _ (by omega) (by omega)
  refine⟨⟨by first|omega|decide,by first|omega|(simp only [List.length_append,List.length_take,List.length_replicate,List.length_map];omega)|(simp;omega)|simp⟩,?_⟩
  obtain rfl:i=l.length:=by omega
  exact congrArg (fun m=>Ob.row _ 6 _ m true) (by rw [Zbi (by omega) (by omega),List.take_length];simp)
set_option maxHeartbeats 4000000 in
theorem Zmz (O:List Pt) (hO:O.length≤1048576) (l:List Pt) (hl:∀ p,p∈l→okV p) (hn:l.length≤1048576) (hp0:0< l.length):SpecT Tryz.prog Tab 72 [.val (.one (.row 1000 0)),.val (.one (.d (.list (List.map ptD l))))] 26 6 (List.map ptD O) 26 6 (List.map ptD (O++(chain l).tail.reverse)):=by
 have hLl:(List.map ptD l).length=l.length:=List.length_map ..
 have h00:([]:List Pt).length=0:=rfl
 have hOl:(List.map ptD O).length=O.length:=List.length_map ..
 refine fn_T [] Tryz.func72 rfl rfl Tryz.ntmps72 rfl (by kernel_rfl) rfl rfl ?_
 refine⟨Nat,fun i=> [(0,.val (.one (.row 1000 0))),(5,int ((List.map ptD O).length:Int)),(10,.val (.one (.d (.list (List.map ptD l))))),(11,int ((List.map ptD l).length:Int)),(12,int (i:Int))],
  fun i=> [(1000,.row 26 6 0 (List.map ptD (O++(chain (l.take i)).reverse)) true)],fun i=>i≤l.length,fun i=>l.length - i,0,?_,Nat.zero_le _,fun i hs=> ?_⟩
 ·constructor<;>(repeat' (first|exact rfl|exact True.intro|exact⟨_,_,rfl⟩|exact(by decide)|apply And.intro))
  all_goals first
   |exact congrArg (List.map ptD) (List.append_nil O).symm
   |exact congrArg (List.map ptD) (List.append_nil O)
   |(simp [hull.chain];done)
 have hil:i≤l.length:=hs
 have hci:=ZbY l i hil
 have hXo:(List.map ptD (O++(chain (l.take i)).reverse)).length=O.length+(chain (l.take i)).length:=by simp
 refine⟨fun e1=> ?_,fun e1=> ?_⟩
 ·have f13:(i:Int)< ((List.map ptD l).length:Int):=of_decide_eq_true e1
  refine Z9 (l:=l) (i:=i) (by first|omega|exact Nat.mod_lt _ (by omega)) fun x14 hx14=> ?_
  have hzax14:=(hl x14 (List.mem_of_getElem? hx14)).1
  have hzbx14:=(hl x14 (List.mem_of_getElem? hx14)).2
  refine k_ix i [D.v (.bool (cn x14.1).s),D.v (.string (cn x14.1).a),D.v (.string (cn x14.1).d),D.v (.bool (cn x14.2).s),D.v (.string (cn x14.2).a),D.v (.string (cn x14.2).d)] (by first|rfl|omega|(rw [wrap64 _ (by omega) (by omega)];omega)|(rw [wrap64 _ (by omega) (by omega)];split<;>omega)) (Zw hx14) rfl ?_
  refine⟨List Pt,fun s=> [(0,.val (.one (.row 1000 0))),(5,int ((List.map ptD O).length:Int)),(7,.val (.one (.ptr 7 0))),(10,.val (.one (.d (.list (List.map ptD l))))),(11,int ((List.map ptD l).length:Int)),(12,int (i:Int))],
   fun s=> [(7,.var 26 [.d (.v (.bool (cn x14.1).s)),.d (.v (.string (cn x14.1).a)),.d (.v (.string (cn x14.1).d)),.d (.v (.bool (cn x14.2).s)),.d (.v (.string (cn x14.2).a)),.d (.v (.string (cn x14.2).d))]),(1000,.row 26 6 0 (List.map ptD (O++s.reverse)) true)],fun s=>push x14 s=push x14 (chain (l.take i))∧(∀ q,q∈s→q∈l)∧s.length≤i,fun s=>s.length,(chain (l.take i)),?_,⟨rfl,fun q hq=>Zb8 l i hil q hq,hci⟩,fun s hs=> ?_⟩
  ·constructor<;>(repeat' (first|exact rfl|exact True.intro|exact⟨_,_,rfl⟩|exact(by decide)|apply And.intro))
   all_goals first|exact congrArg (fun n:Int=>D.v (.int .i64 n)) (by omega)|exact congrArg (fun n:Int=>D.v (.int .i64 n)) (by rw [wrap64 _ (by omega) (by omega)];omega)|(simp;done)
  have hs1:=hs.1
  have hs2:=hs.2.1
  have hs3:=hs.2.2
  have hX:(List.map ptD (O++s.reverse)).length=O.length+s.length:=by simp
  have t1:=(Zht hl hs2).1
  have t2:=(Zht hl hs2).2
  have t3:=(Zhu hl hs2).1
  have t4:=(Zhu hl hs2).2
  have hOl:(List.map ptD O).length=O.length:=List.length_map ..
  have hwf:IntKind.i64.wrap (((List.map ptD O).length:Int)+1)=((List.map ptD O).length:Int)+1:=wrap64 _ (by omega) (by omega)
  refine fork (fun e2=> ?_) (fun e2=> ?_)
  ·have f21:((List.map ptD (O++s.reverse)).length:Int) >IntKind.i64.wrap (((List.map ptD O).length:Int)+1):=of_decide_eq_true e2
   refine k_at_own' (O.length+s.length - 2) (by first|rfl|omega|(rw [wrap64 _ (by omega) (by omega)];omega)|(rw [wrap64 _ (by omega) (by omega)];split<;>omega)) (by first|omega|(simp only [List.length_set];omega)|(simp;omega)) ?_
   refine Zcp [D.v (.bool (cn (secP s).1).s),D.v (.string (cn (secP s).1).a),D.v (.string (cn (secP s).1).d),D.v (.bool (cn (secP s).2).s),D.v (.string (cn (secP s).2).a),D.v (.string (cn (secP s).2).d)] _ (Zw (ZmP (by omega))) rfl rfl ?_
   refine k_at_own' (O.length+s.length - 1) (by first|rfl|omega|(rw [wrap64 _ (by omega) (by omega)];omega)|(rw [wrap64 _ (by omega) (by omega)];split<;>omega)) (by first|omega|(simp only [List.length_set];omega)|(simp;omega)) ?_
   refine Zcp [D.v (.bool (cn (topP s).1).s),D.v (.string (cn (topP s).1).a),D.v (.string (cn (topP s).1).d),D.v (.bool (cn (topP s).2).s),D.v (.string (cn (topP s).2).a),D.v (.string (cn (topP s).2).d)] _ (Zw (ZmM (by omega))) rfl rfl ?_
   refine ZkE (x:=cn (secP s).1) (y:=cn (secP s).2) (z:=cn (topP s).1) (t:=cn (topP s).2) (u:=cn x14.1) (v:=cn x14.2) (by simp only [cn_z];omega) (by simp only [cn_z];omega) (by simp only [cn_z];omega) (by simp only [cn_z];omega) (by simp only [cn_z];omega) (by simp only [cn_z];omega) (fun n35 hk_35_1=> ?_)
   try simp only [cn_q] at hk_35_1
   refine⟨by kernel_rfl,?_⟩
   refine⟨fun e3=> ?_,fun e3=> ?_⟩
   ·have f37:(((topP s).1) - ((secP s).1))*(x14.2 - ((secP s).2)) - (((topP s).2) - ((secP s).2))*(x14.1 - ((secP s).1))≤0:=(Zcf hk_35_1).1 (of_decide_eq_true e3)
    have hw1:IntKind.i64.wrap (((List.map ptD (O++s.reverse)).length:Int) - 1)=((List.map ptD (O++s.reverse)).length:Int) - 1:=wrap64 _ (by omega) (by omega)
    refine⟨⟨by first|omega|decide,by first|omega|(simp only [List.length_append,List.length_take,List.length_replicate,List.length_map];omega)|(simp;omega)|simp⟩,?_⟩
    refine⟨s.tail,⟨(Zhp (by omega) f37).symm.trans hs1,fun q hq=>hs2 q (List.mem_of_mem_tail hq),by rw [List.length_tail];omega⟩,by simp only [List.length_tail];omega,?_⟩
    constructor<;>(repeat' (first|exact rfl|exact True.intro|apply And.intro))
    all_goals first
     |exact Zbi (by omega) (by omega)
     |exact(Zbi (by omega) (by omega)).symm
     |exact congrArg (fun n:Int=>D.v (.int .i64 n)) (by rw [wrap64 _ (by omega) (by omega)];omega)
     |exact congrArg (fun n:Int=>D.v (.int .i64 n)) (by omega)
   ·have f37:¬ ((((topP s).1) - ((secP s).1))*(x14.2 - ((secP s).2)) - (((topP s).2) - ((secP s).2))*(x14.1 - ((secP s).1))≤0):=fun hh=>of_decide_eq_false e3 ((Zcf hk_35_1).2 hh)
    refine⟨⟨row1 rfl,(by show ((List.map ptD (O++s.reverse)).length+1)*80≤_;omega),(by show ((List.map ptD (O++s.reverse)).length+1)≤_;omega)⟩,?_⟩
    have hps:=(Zaf hx14).trans (hs1.symm.trans (Zfk (by omega) f37))
    refine⟨i+1,by omega,by simp only;omega,?_⟩
    constructor<;>(repeat' (first|exact rfl|exact True.intro|apply And.intro))
    all_goals first
     |(rw [hps,List.reverse_cons,← List.append_assoc,List.map_append];rfl)
     |(rw [hps,List.reverse_cons,List.map_append,List.map_append,List.map_append,List.append_assoc];rfl)
     |exact congrArg (fun n:Int=>D.v (.int .i64 n)) (by rw [wrap64 _ (by omega) (by omega)];omega)
     |exact congrArg (fun n:Int=>D.v (.int .i64 n)) (by omega)
  ·have f21:¬ (((List.map ptD (O++s.reverse)).length:Int) >IntKind.i64.wrap (((List.map ptD O).length:Int)+1)):=of_decide_eq_false e2
   refine⟨by kernel_rfl,?_⟩
   refine⟨fun e=>absurd e (by decide),fun _=> ?_⟩
   refine⟨⟨row1 rfl,(by show ((List.map ptD (O++s.reverse)).length+1)*80≤_;omega),(by show ((List.map ptD (O++s.reverse)).length+1)≤_;omega)⟩,?_⟩
   have hps:=(Zaf hx14).trans (hs1.symm.trans (ZdN (by omega)))
   refine⟨i+1,by omega,by simp only;omega,?_⟩
   constructor<;>(repeat' (first|exact rfl|exact True.intro|apply And.intro))
   all_goals first
    |(rw [hps,List.reverse_cons,← List.append_assoc,List.map_append];rfl)
    |(rw [hps,List.reverse_cons,List.map_append,List.map_append,List.map_append,List.append_assoc];rfl)
    |exact congrArg (fun n:Int=>D.v (.int .i64 n)) (by rw [wrap64 _ (by omega) (by omega)];omega)
    |exact congrArg (fun n:Int=>D.v (.int .i64 n)) (by omega)
 ·have f13:¬ ((i:Int)< ((List.map ptD l).length:Int)):=of_decide_eq_false e1
  have hcp:0< (chain (l.take i)).length:=by
   obtain rfl:i=l.length:=by omega
   rw [List.take_length];exact ZfW hp0
  have hw2:IntKind.i64.wrap (((List.map ptD (O++(chain (l.take i)).reverse)).length:Int) - 1)=((List.map ptD (O++(chain (l.take i)).reverse)).length:Int) - 1:=wrap64 _ (by omega) (by omega)
  refine⟨⟨by first|omega|decide,by first|omega|(simp only [List.length_append,List.length_take,List.length_replicate,List.length_map];omega)|(simp;omega)|simp⟩,?_⟩
  obtain rfl:i=l.length:=by omega
  exact congrArg (fun m=>Ob.row _ 6 _ m true) (by rw [Zbi (by omega) (by omega),List.take_length])
end
end Go.Proofs.YtncoimmjjfmhdaaGreatDoor.eng
namespace Go.Proofs.YtncoimmjjfmhdaaGreatDoor.eng
open Go.RowKit num mem seg q held ratA ratB ratC ratD ratE vars ratF prf
section
variable {K : AV → Prop}
open poly (Pt)
open hull (pos sub push chain wrapL hullL)
def qpts (l:List (RV×RV)):List Pt:=l.map fun p=>(p.1.q,p.2.q)
theorem Zep (l:List (RV×RV)):(qpts l).length=l.length:=List.length_map ..
theorem ZjY {l:List (RV×RV)} (hl:∀ p,p∈l→p.1.z≤16777216∧p.2.z≤16777216):∀ p,p∈qpts l→okV p:=by
 intro p hp
 obtain⟨x,hx,rfl⟩:=List.mem_map.1 hp
 have h1:=hl x hx
 have:=x.1.z1;have:=x.2.z1
 unfold okV;exact⟨by simp only;omega,by simp only;omega⟩
def mixP (l:List (RV×RV)) (i:Nat):List (RV×RV):=(l.take i).map (fun p=>(cn p.1.q,cn p.2.q))++List.replicate (l.length - i) (z0,z0)
theorem Zmd {l:List (RV×RV)} {i:Nat} (h:i≤l.length):(mixP l i).length=l.length:=by
 simp only [mixP,List.length_append,List.length_map,List.length_take,List.length_replicate];omega
theorem ZoD (l:List (RV×RV)):mixP l 0=List.replicate l.length (z0,z0):=by simp [mixP]
theorem Zme (l:List (RV×RV)):List.map rdv (mixP l l.length)=List.map ptD (qpts l):=by
 simp only [mixP,List.take_length,Nat.sub_self,List.replicate_zero,List.append_nil,qpts,List.map_map];rfl
theorem Zkj {l:List (RV×RV)} {i:Nat} {x:RV×RV} (h:l[i]? =some x):(mixP l i).set i (cn x.1.q,cn x.2.q)=mixP l (i+1):=by
 have hi:i< l.length:=(List.getElem?_eq_some_iff.1 h).1
 unfold mixP
 rw [List.set_append_right _ _ (by simp;omega)]
 have e:i - (List.map (fun p:RV×RV=>(cn p.1.q,cn p.2.q)) (l.take i)).length=0:=by simp;omega
 rw [e,List.take_add_one,h,show l.length - i=(l.length - (i+1))+1 by omega,List.replicate_succ]
 simp
def hOut (l:List (RV×RV)):List Pt:=if 64< l.length∨(wrapL (qpts l)).length< 3 then [] else wrapL (qpts l)
def hErr (l:List (RV×RV)):Int:=if 64< l.length then 2 else if (wrapL (qpts l)).length< 3 then 3 else 0
theorem ZhI {l:List (RV×RV)} (h:64< l.length):hOut l= []:=if_pos (.inl h)
theorem ZhJ {l:List (RV×RV)} (h:64< l.length):hErr l=2:=if_pos h
theorem ZeD {l:List (RV×RV)} (h:(wrapL (qpts l)).length< 3):hOut l= []:=if_pos (.inr h)
theorem ZeE {l:List (RV×RV)} (h0:¬ 64< l.length) (h:(wrapL (qpts l)).length< 3):hErr l=3:=by unfold hErr;rw [if_neg h0,if_pos h]
theorem ZgC {l:List (RV×RV)} (h0:¬ 64< l.length) (h:¬ (wrapL (qpts l)).length< 3):hOut l=wrapL (qpts l):=if_neg (by rintro(g|g);exact h0 g;exact h g)
theorem ZgD {l:List (RV×RV)} (h0:¬ 64< l.length) (h:¬ (wrapL (qpts l)).length< 3):hErr l=0:=by unfold hErr;rw [if_neg h0,if_neg h]
theorem Zex (l:List Pt):∀ m,m≤l.length→∀ q,q∈kept l m↔q∈l.take m
 |0,_,q=>by simp [kept]
 |m+1,h,q=>by
  have hx:l[m]? =some (l[m]'(by omega)):=List.getElem?_eq_getElem (by omega)
  have ih:=Zex l m (by omega) q
  by_cases hd:m=0∨l[m - 1]? ≠l[m]?
  ·rw [ZbO hx (by rw [← hx];exact hd),List.take_add_one,hx]
   simp only [List.mem_append,Option.toList_some,ih]
  ·have h0:0< m:=by omega
   have hs:l[m - 1]? =l[m]? :=Decidable.byContradiction fun e=>hd (.inr e)
   rw [Zb5 h0 hx (hs.trans hx),List.take_add_one,hx,List.mem_append,ih]
   refine⟨.inl,fun g=>g.elim id fun g=> ?_⟩
   obtain rfl:q=l[m]'(by omega):=by simpa using g
   have h2:(l.take m)[m - 1]? =some (l[m]'(by omega)):=by rw [List.getElem?_take_of_lt (by omega),hs,hx]
   exact List.mem_of_getElem? h2
theorem Zkw {l:List Pt} (hs:l.Pairwise fun x y=>¬ pos (sub x y)):∀ m,m≤l.length→(kept l m).Pairwise (fun a b=>pos (sub b a))∧∀ q,q∈kept l m→∀ x,l[m - 1]? =some x→0< m→q=x∨pos (sub x q)
 |0,_=>⟨by simp [kept],fun q hq=>by simp [kept] at hq⟩
 |m+1,h=>by
  have hx:l[m]? =some (l[m]'(by omega)):=List.getElem?_eq_getElem (by omega)
  obtain⟨i1,i2⟩:=Zkw hs m (by omega)
  have hle:∀ q,q∈l.take m→q=l[m]'(by omega)∨pos (sub (l[m]'(by omega)) q):=by
   intro q hq
   obtain⟨j,hj⟩:=List.getElem?_of_mem hq
   have hjm:j< m:=by
    rcases Nat.lt_or_ge j m with g|g
    ·exact g
    ·rw [List.getElem?_eq_none (by rw [List.length_take];omega)] at hj;simp at hj
   rw [List.getElem?_take_of_lt hjm] at hj
   have:=hull.pw_at hs hjm hj hx
   rcases hull.ps_cases hull.half_pos q (l[m]'(by omega)) with g|g|g
   ·exact absurd g this
   ·exact .inl g
   ·exact .inr g
  by_cases hd:m=0∨l[m - 1]? ≠l[m]?
  ·rw [ZbO hx (by rw [← hx];exact hd)]
   have hlt:∀ q,q∈kept l m→pos (sub (l[m]'(by omega)) q):=by
    intro q hq
    rcases hd with rfl|hd
    ·simp [kept] at hq
    ·have hm0:0< m:=by
      rcases Nat.eq_zero_or_pos m with rfl|g
      ·simp [kept] at hq
      ·exact g
     have hy:l[m - 1]? =some (l[m - 1]'(by omega)):=List.getElem?_eq_getElem (by omega)
     have hyx:pos (sub (l[m]'(by omega)) (l[m - 1]'(by omega))):=by
      rcases hle (l[m - 1]'(by omega)) (List.mem_of_getElem? (i:=m - 1) (by rw [List.getElem?_take_of_lt (by omega),hy])) with g|g
      ·exact absurd (by rw [hy,hx,g]) hd
      ·exact g
     rcases i2 q hq _ hy hm0 with rfl|g
     ·exact hyx
     ·exact hull.ps_trans hull.half_pos hyx g
   refine⟨List.pairwise_append.2 ⟨i1,List.pairwise_singleton ..,fun a ha b hb=> ?_⟩,fun q hq x h2 _=> ?_⟩
   ·rw [List.mem_singleton.1 hb];exact hlt a ha
   ·rw [Nat.add_sub_cancel,hx] at h2
    rw [← Option.some.inj h2]
    rcases List.mem_append.1 hq with g|g
    ·exact .inr (hlt q g)
    ·exact .inl (List.mem_singleton.1 g)
  ·have h0:0< m:=by omega
   have hs':l[m - 1]? =l[m]? :=Decidable.byContradiction fun e=>hd (.inr e)
   rw [Zb5 h0 hx (hs'.trans hx)]
   exact⟨i1,fun q hq x h2 _=>i2 q hq x (by rw [hs'];rwa [Nat.add_sub_cancel] at h2) h0⟩
theorem ZfG {l:List (RV×RV)} {L:List Pt} (hp:L.Perm (qpts l)) (hs:L.Pairwise fun x y=>¬ pos (sub x y)):(wrapL (qpts l)).length≤(kept L L.length).length∧(3≤(kept L L.length).length→wrapL (qpts l)=hullL (kept L L.length)):=
 hull.hull_wrap (Zkw hs L.length (Nat.le_refl _)).1 fun q=>by rw [Zex L L.length (Nat.le_refl _),List.take_length];exact hp.mem_iff.symm
set_option maxHeartbeats 4000000 in
theorem ZlA (l:List (RV×RV)) (hl:∀ p,p∈l→p.1.z≤16777216∧p.2.z≤16777216) (hn:l.length≤1048576):Spec Tryz.prog Tab 29 [.val (.one (.d (.list (List.map rdv l))))] (.tup [.one (.d (.list (List.map ptD (hOut l)))),.one (.d (.v (.int .i64 (hErr l))))]):=by
 have hL:(List.map rdv l).length=l.length:=List.length_map ..
 have hok:=ZjY hl
 have hql:=Zep l
 obtain⟨L,hp1,hp2,hS1⟩:=ZlG (qpts l) hok (by omega)
 have hLl:L.length=l.length:=by rw [hp1.length_eq,hql]
 have hLok:∀ p,p∈L→okV p:=fun p h=>hok p (hp1.mem_iff.1 h)
 have hKok:∀ p,p∈kept L L.length→okV p:=fun p h=>hLok p (by have:=(Zex L L.length (Nat.le_refl _) p).1 h;rwa [List.take_length] at this)
 have hKl:=Zey L L.length
 have hKm:(List.map ptD (kept L L.length)).length=(kept L L.length).length:=List.length_map ..
 refine Zm7 [500029,31,700036,500038,600041] Tryz.func29 rfl rfl Tryz.ntmps29 rfl (by kernel_rfl) rfl rfl ?_
 refine⟨fun e1=> ?_,fun e1=> ?_⟩
 ·have f10:((List.map rdv l).length:Int) >64:=of_decide_eq_true e1
  refine Eq.trans (b:= .tup [.one (.d (.list ([]))),.one (.d (.v (.int .i64 (2))))]) ?_ rfl
  rw [ZhI (by omega),ZhJ (by omega)]
  rfl
 ·have f10:¬ (((List.map rdv l).length:Int) >64):=of_decide_eq_false e1
  refine⟨⟨by omega,rfl,(by show (((List.map rdv l).length:Int))*80≤_;omega),by omega⟩,?_⟩
  refine⟨Nat,fun i=> [(4,.val (.one (.row 13 0))),(14,.val (.one (.d (.list (List.map rdv l))))),(15,int ((List.map rdv l).length:Int)),(16,int (i:Int))],
   fun i=> [(13,.row 26 6 0 (List.map rdv (mixP l i)) true)],fun i=>i≤l.length,fun i=>l.length - i,0,?_,Nat.zero_le _,fun i hs=> ?_⟩
  ·constructor<;>(repeat' (first|exact rfl|exact True.intro|exact⟨_,_,rfl⟩|exact(by decide)|apply And.intro))
   all_goals first
    |(rw [ZoD,List.map_replicate];simp only [List.length_map,Int.toNat_natCast];rfl)
  have hX:(List.map rdv (mixP l i)).length=l.length:=by rw [List.length_map,Zmd hs]
  refine⟨fun e2=> ?_,fun e2=> ?_⟩
  ·have f17:(i:Int)< ((List.map rdv l).length:Int):=of_decide_eq_true e2
   refine Z9 (l:=l) (i:=i) (by first|omega|exact Nat.mod_lt _ (by omega)) fun x19 hx19=> ?_
   have hzx19:=hl x19 (List.mem_of_getElem? hx19)
   have hzax19:=hzx19.1
   have hzbx19:=hzx19.2
   refine k_ix i [D.v (.bool x19.1.s),D.v (.string x19.1.a),D.v (.string x19.1.d),D.v (.bool x19.2.s),D.v (.string x19.2.a),D.v (.string x19.2.d)] (by first|rfl|omega|(rw [wrap64 _ (by omega) (by omega)];omega)|(rw [wrap64 _ (by omega) (by omega)];split<;>omega)) (Zw hx19) rfl ?_
   refine ZmX (x:=x19.1) (y:=x19.2) (z:=z0) (t:=z0) (by omega) (by omega) (by simp only [z0z];omega) (by simp only [z0z];omega) (fun p25 q25 hk_25_2 hk_25_3 hk_25_4 hk_25_5=> ?_)
   simp only [cn_z,z0z] at hk_25_4
   simp only [cn_z,z0z] at hk_25_5
   refine k_at_own' i (by first|rfl|omega|(rw [wrap64 _ (by omega) (by omega)];omega)|(rw [wrap64 _ (by omega) (by omega)];split<;>omega)) (by first|omega|(simp only [List.length_set];omega)|(simp;omega)) ?_
   refine⟨by first|omega|(simp only [List.length_set];omega)|(simp;omega),?_⟩
   obtain rfl:p25=x19.1.q:=by rw [hk_25_2,z0q,Rat.add_zero]
   obtain rfl:q25=x19.2.q:=by rw [hk_25_3,z0q,Rat.add_zero]
   refine⟨i+1,by omega,by simp only;omega,?_⟩
   constructor<;>(repeat' (first|exact rfl|exact True.intro|apply And.intro))
   all_goals first
    |(rw [← Zkj hx19,List.map_set];rfl)
    |exact congrArg (fun n:Int=>D.v (.int .i64 n)) (by rw [wrap64 _ (by omega) (by omega)];omega)
    |exact congrArg (fun n:Int=>D.v (.int .i64 n)) (by omega)
  ·have f17:¬ ((i:Int)< ((List.map rdv l).length:Int)):=of_decide_eq_false e2
   obtain rfl:i=l.length:=by omega
   rw [← Zme] at hS1
   refine⟨.tup [],List.map ptD L,⟨rfl,hS1⟩,?_⟩
   refine⟨_,_,_,ZiV L hLok (by omega),?_⟩
   refine⟨fun e3=> ?_,fun e3=> ?_⟩
   ·have f34:((List.map ptD (kept L L.length)).length:Int)< 3:=of_decide_eq_true e3
    refine Eq.trans (b:= .tup [.one (.d (.list ([]))),.one (.d (.v (.int .i64 (3))))]) ?_ rfl
    have hw:=(ZfG hp1 hp2).1
    rw [ZeD (by omega),ZeE (by omega) (by omega)]
    rfl
   ·have f34:¬ (((List.map ptD (kept L L.length)).length:Int)< 3):=of_decide_eq_false e3
    have hH:=(ZfG hp1 hp2).2 (by omega)
    have hch:(chain (kept L L.length)).length≤(kept L L.length).length:=by have:=ZbY (kept L L.length) (kept L L.length).length (Nat.le_refl _);rwa [List.take_length] at this
    refine⟨.new 26 6 (List.map ptD ((chain (kept L L.length)).tail.reverse)),⟨_,_,_,rfl,ZgR (kept L L.length) hKok (by omega) (by omega),ZkS _⟩,?_⟩
    refine⟨.tup [],List.map ptD ((kept L L.length).reverse),⟨rfl,ZlP (kept L L.length) (by omega)⟩,?_⟩
    refine⟨_,_,_,⟨Zmz (chain (kept L L.length)).tail.reverse (by rw [List.length_reverse,List.length_tail];omega) (kept L L.length).reverse (fun p h=>hKok p (List.mem_reverse.1 h)) (by rw [List.length_reverse];omega) (by rw [List.length_reverse];omega),ZkS _⟩,?_⟩
    have hHm:(List.map ptD (hullL (kept L L.length))).length=(hullL (kept L L.length)).length:=List.length_map ..
    refine⟨fun e4=> ?_,fun e4=> ?_⟩
    ·have f44:((List.map ptD (hullL (kept L L.length))).length:Int)< 3:=of_decide_eq_true e4
     refine Eq.trans (b:= .tup [.one (.d (.list ([]))),.one (.d (.v (.int .i64 (3))))]) ?_ rfl
     rw [ZeD (by rw [hH];omega),ZeE (by omega) (by rw [hH];omega)]
     rfl
    ·have f44:¬ (((List.map ptD (hullL (kept L L.length))).length:Int)< 3):=of_decide_eq_false e4
     refine Eq.trans (b:= .tup [.one (.d (.list (List.map ptD (hullL (kept L L.length))))),.one (.d (.v (.int .i64 (0))))]) ?_ rfl
     rw [ZgC (by omega) (by rw [hH];omega),ZgD (by omega) (by rw [hH];omega),hH]
end
end Go.Proofs.YtncoimmjjfmhdaaGreatDoor.eng
