/- Joined by wip/bundle.py: XSingA XForcA XTrackA. -/
import Derived.Test.YtbgokkfhohodgaaGreatDoorForeA
import Derived.Test.YtbgokkfhohodgaaGreatDoorGrpX
import Derived.Test.YtbgokkfhohodgaaGreatDoorOpenA
set_option maxRecDepth 100000
namespace Go.Proofs.YtbgokkfhohodgaaGreatDoor.eng
open Go.RowKit num mem seg q held ratA ratB ratC ratD ratE vars ratF trq
section
variable {K : AV → Prop}
end
end Go.Proofs.YtbgokkfhohodgaaGreatDoor.eng
namespace Go.Proofs.YtbgokkfhohodgaaGreatDoor.eng
open Go.RowKit num mem seg q held ratA ratB ratC ratD ratE vars ratF trq
section
variable {K : AV → Prop}
theorem Zgl {l m:List Rat} {u v:List (List D)} (e:l=m) (hu:u=RL l) (hv:v=RL m) (hn:l.length≤1099511627776) (k:K (bool true)):Ask 14 [.val (.one (.d (.list u))),.val (.one (.d (.list v)))] K:=by
 subst e
 exact Zku l l hu hv hn hn fun b hb=>by rw [hb,decide_eq_true rfl];exact k
end
end Go.Proofs.YtbgokkfhohodgaaGreatDoor.eng
namespace Go.Proofs.YtbgokkfhohodgaaGreatDoor.eng
open Go.RowKit num mem seg q held ratA ratB ratC ratD ratE vars ratF argopen
section
variable {K : AV → Prop}
def itF (s:Rat) (a b:List RV) (i:Nat):Rat:=qAt a i+s*(qAt b i - qAt a i)
def itL (s:Rat) (a b:List RV) (n:Nat):List Rat:=(List.range n).map (itF s a b)
def qsL (l:List RV):List Rat:=l.map RV.q
def atR (x:Int×List RV):List (Int×List RV)→Int→List Rat
 | [],_=>qsL x.2
 |y :: r,n=>if n< y.1 then itL (((n:Rat) - (x.1:Rat)) / ((y.1:Rat) - (x.1:Rat))) x.2 y.2 (min x.2.length y.2.length) else atR y r n
def atL:List (Int×List RV)→Int→List Rat
 | [],_=> []
 |x :: r,n=>if n≤x.1 then qsL x.2 else atR x r n
theorem ZfD (s:Rat) (a b:List RV) (n:Nat):(itL s a b n).length=n:=by simp [itL]
theorem Zgp {α:Type} (g:Rat→α) (s:Rat) (a b:List RV) (i:Nat):List.map g (itL s a b (i+1))=List.map g (itL s a b i)++ [g (itF s a b i)]:=by simp [itL,List.range_succ]
theorem Zgd {α:Type} (g:Rat→α) {l:List RV} {i:Nat} {x:RV} (h:l[i]? =some x):List.map g (qsL (l.take (i+1)))=List.map g (qsL (l.take i))++ [g x.q]:=by
 rw [List.take_add_one,h];simp [qsL]
theorem ZdR (l:List RV):(qsL l).length=l.length:=List.length_map ..
theorem Zi8 {α:Type} {l:List α} {i:Nat} {y:α} (h:l[i]? =some y):l.drop i=y :: l.drop (i+1):=by
 obtain⟨hi,rfl⟩:=List.getElem?_eq_some_iff.1 h
 exact List.drop_eq_getElem_cons hi
theorem ZkB {α:Type} {l:List α} {i:Nat} (h:l.length≤i):l.drop i= []:=List.drop_eq_nil_of_le h
theorem Zjg {a b:Int} (h:a< b):(b:Rat) - (a:Rat)≠0:=by
 intro e
 have:(b:Rat)=(a:Rat):=by grind
 have:=Rat.intCast_inj.1 this
 omega
theorem ZmP {t:List (Int×List RV)} {x:Int×List RV} {n:Int} (h:t[0]? =some x) (g:n≤x.1):atL t n=qsL x.2:=by
 cases t with
 |nil=>simp at h
 |cons a r=>obtain rfl:=Option.some.inj (show some a=some x from h);exact if_pos g
theorem Zng {t:List (Int×List RV)} {x:Int×List RV} {n:Int} (h:t[0]? =some x) (g:¬ n≤x.1):atL t n=atR x (t.drop 1) n:=by
 cases t with
 |nil=>simp at h
 |cons a r=>obtain rfl:=Option.some.inj (show some a=some x from h);exact if_neg g
def atI (t:List (Int×List RV)) (n:Int) (i:Nat) (x:Int×List RV):Prop:=t[i]? =some x∧x.1≤n∧atL t n=atR x (t.drop (i+1)) n
theorem ZmR {t:List (Int×List RV)} {x:Int×List RV} {n:Int} (h:t[0]? =some x) (g:¬ n≤x.1):atI t n 0 x:=⟨h,by omega,Zng h g⟩
theorem ZmQ {t:List (Int×List RV)} {x y:Int×List RV} {n:Int} {i:Nat} (h:atI t n i x) (hy:t[i+1]? =some y) (g:¬ n< y.1):atI t n (i+1) y:=by
 refine⟨hy,by omega,?_⟩
 rw [h.2.2,Zi8 hy]
 exact if_neg g
theorem Zk8 {t:List (Int×List RV)} {x y:Int×List RV} {n:Int} {i:Nat} (h:atI t n i x) (hy:t[i+1]? =some y) (g:n< y.1):atL t n=itL (((n:Rat) - (x.1:Rat)) / ((y.1:Rat) - (x.1:Rat))) x.2 y.2 (min x.2.length y.2.length):=by
 rw [h.2.2,Zi8 hy]
 exact if_pos g
theorem Zjp {t:List (Int×List RV)} {x:Int×List RV} {n:Int} {i:Nat} (h:atI t n i x) (hi:t.length≤i+1):atL t n=qsL x.2:=by
 rw [h.2.2,ZkB hi];rfl
def tz (t:List (Int×List RV)):Prop:=t.length≤1048576∧∀ k,k∈t→(-9223372036854775808≤k.1∧k.1≤9223372036854775807)∧k.2.length≤1048576∧∀ x,x∈k.2→x.z≤1048577
theorem ZfK (l:List RV) (hl:∀ x,x∈l→x.z≤1048577) (hn:l.length≤1048576):Spec Tryz.prog Tab 127 [.val (.one (.d (.list (List.map rd l))))] (.val (.one (.d (.list (List.map rdc (qsL l)))))):=by
 have hL:(List.map rd l).length=l.length:=List.length_map ..
 refine Ze Tryz.func127 rfl rfl Tryz.ntmps127 rfl (by kernel_rfl) rfl rfl ?_
 refine⟨Nat,fun i=> [(3,.val (.one (.row 17 0))),(6,.val (.one (.d (.list (List.map rd l))))),(7,int ((List.map rd l).length:Int)),(8,int (i:Int))],
  fun i=> [(17,.row 23 3 0 (List.map rdc (qsL (l.take i))) true)],fun i=>i≤l.length,fun i=>l.length - i,0,?_,Nat.zero_le _,fun i hs=> ?_⟩
 ·constructor<;>(repeat' (first|exact rfl|exact True.intro|exact⟨_,_,rfl⟩|exact(by decide)|apply And.intro))
  all_goals first|exact congrArg (fun n:Int=>D.v (.int .i64 n)) (by omega)|exact congrArg (fun n:Int=>D.v (.int .i64 n)) (by rw [wrap64 _ (by omega) (by omega)];omega)|(simp;done)
 have hT:(List.map rdc (qsL (l.take i))).length≤1048576:=by rw [List.length_map,ZdR,List.length_take];omega
 refine⟨fun e1=> ?_,fun e1=> ?_⟩
 ·have f9:(i:Int)< ((List.map rd l).length:Int):=of_decide_eq_true e1
  refine ZM (l:=l) (i:=i) (by first|omega|exact Nat.mod_lt _ (by omega)) fun x10 hx10=> ?_
  have hzx10:=hl x10 (List.mem_of_getElem? hx10)
  refine k_ix i [D.v (.bool x10.s),D.v (.string x10.a),D.v (.string x10.d)] (by first|rfl|omega|(rw [wrap64 _ (by omega) (by omega)];omega)) (Zp hx10) rfl ?_
  refine k_of (0) (by omega) (by omega) fun q14 h14 z14=> ?_
  simp only [cn_z] at z14
  refine Zmt (x:=x10) (y:=cn q14) (by omega) (by simp only [cn_z];omega) fun q15 h15 z15=> ?_
  simp only [cn_z] at z15
  simp only [cn_q] at h15
  refine⟨⟨row1 rfl,(by show ((List.map rdc (qsL (l.take i))).length+1)*40≤_;omega),(by show ((List.map rdc (qsL (l.take i))).length+1)≤_;omega)⟩,?_⟩
  refine⟨by kernel_rfl,?_⟩
  have e15:q15=x10.q:=by rw [h15,h14,Rat.intCast_zero,Rat.add_zero]
  clear h15
  subst e15
  refine⟨i+1,by omega,by simp only;omega,?_⟩
  constructor<;>(repeat' (first|exact rfl|exact True.intro|apply And.intro))
  all_goals first
   |(rw [Zgd _ hx10];rfl)
   |exact congrArg (fun n:Int=>D.v (.int .i64 n)) (by rw [wrap64 _ (by omega) (by omega)];omega)
   |exact congrArg (fun n:Int=>D.v (.int .i64 n)) (by omega)
 ·have f9:¬ ((i:Int)< ((List.map rd l).length:Int)):=of_decide_eq_false e1
  refine Eq.trans (b:= .val (.one (.d (.list (List.map rdc (qsL (l.take i))))))) ?_ rfl
  rw [List.take_of_length_le (by omega)]
theorem Zgm {l:List RV} (hl:∀ x,x∈l→x.z≤1048577) (hn:l.length≤1048576) (k:K (.val (.one (.d (.list (List.map rdc (qsL l))))))):Ask 127 [.val (.one (.d (.list (List.map rd l))))] K:=use (ZfK l hl hn) rfl k
theorem Zhq (l:List RV) (hl:∀ x,x∈l→x.z≤1048577) (hn:l.length≤1048576):Spec Tryz.prog Tab 62 [.val (.one (.d (.list (List.map rd l))))] (.val (.one (.d (.list (List.map q3d (qsL l)))))):=by
 have hL:(List.map rd l).length=l.length:=List.length_map ..
 refine Ze Tryz.func62 rfl rfl Tryz.ntmps62 rfl (by kernel_rfl) rfl rfl ?_
 refine⟨Nat,fun i=> [(3,.val (.one (.row 16 0))),(6,.val (.one (.d (.list (List.map rd l))))),(7,int ((List.map rd l).length:Int)),(8,int (i:Int))],
  fun i=> [(16,.row 98 3 0 (List.map q3d (qsL (l.take i))) true)],fun i=>i≤l.length,fun i=>l.length - i,0,?_,Nat.zero_le _,fun i hs=> ?_⟩
 ·constructor<;>(repeat' (first|exact rfl|exact True.intro|exact⟨_,_,rfl⟩|exact(by decide)|apply And.intro))
  all_goals first|exact congrArg (fun n:Int=>D.v (.int .i64 n)) (by omega)|exact congrArg (fun n:Int=>D.v (.int .i64 n)) (by rw [wrap64 _ (by omega) (by omega)];omega)|(simp;done)
 have hT:(List.map q3d (qsL (l.take i))).length≤1048576:=by rw [List.length_map,ZdR,List.length_take];omega
 refine⟨fun e1=> ?_,fun e1=> ?_⟩
 ·have f9:(i:Int)< ((List.map rd l).length:Int):=of_decide_eq_true e1
  refine ZM (l:=l) (i:=i) (by first|omega|exact Nat.mod_lt _ (by omega)) fun x10 hx10=> ?_
  have hzx10:=hl x10 (List.mem_of_getElem? hx10)
  refine k_ix i [D.v (.bool x10.s),D.v (.string x10.a),D.v (.string x10.d)] (by first|rfl|omega|(rw [wrap64 _ (by omega) (by omega)];omega)) (Zp hx10) rfl ?_
  refine ZfC (x:=x10) (by omega) fun q14 h14 z14=> ?_
  refine⟨⟨row1 rfl,(by show ((List.map q3d (qsL (l.take i))).length+1)*56≤_;omega),(by show ((List.map q3d (qsL (l.take i))).length+1)≤_;omega)⟩,?_⟩
  subst h14
  refine⟨i+1,by omega,by simp only;omega,?_⟩
  constructor<;>(repeat' (first|exact rfl|exact True.intro|apply And.intro))
  all_goals first
   |(rw [Zgd _ hx10];rfl)
   |exact congrArg (fun n:Int=>D.v (.int .i64 n)) (by rw [wrap64 _ (by omega) (by omega)];omega)
   |exact congrArg (fun n:Int=>D.v (.int .i64 n)) (by omega)
 ·have f9:¬ ((i:Int)< ((List.map rd l).length:Int)):=of_decide_eq_false e1
  refine Eq.trans (b:= .val (.one (.d (.list (List.map q3d (qsL (l.take i))))))) ?_ rfl
  rw [List.take_of_length_le (by omega)]
theorem ZiS {l:List RV} (hl:∀ x,x∈l→x.z≤1048577) (hn:l.length≤1048576) (k:K (.val (.one (.d (.list (List.map q3d (qsL l))))))):Ask 62 [.val (.one (.d (.list (List.map rd l))))] K:=use (Zhq l hl hn) rfl k
set_option maxHeartbeats 2000000 in
theorem ZkM (t:List (Int×List RV)) (n:Int) (ht:tz t) (hn:-9223372036854775808≤n∧n≤9223372036854775807):Spec Tryz.prog Tab 57 [.val (.one (.d (.list (List.map keyD t)))),int n] (.val (.one (.d (.list (List.map rdc (atL t n)))))):=by
 have hL:(List.map keyD t).length=t.length:=List.length_map ..
 have ht1:=ht.1
 refine Ze Tryz.func57 rfl rfl Tryz.ntmps57 rfl (by kernel_rfl) rfl rfl ?_
 refine⟨fun e1=> ?_,fun e1=> ?_⟩
 ·have f15:((List.map keyD t).length:Int)=0:=Zcf e1
  refine Eq.trans (b:= .val (.one (.d (.list ([]))))) ?_ rfl
  have:t= []:=List.eq_nil_of_length_eq_zero (by omega)
  subst this
  rfl
 ·have f15:¬ (((List.map keyD t).length:Int)=0):=Zcg e1
  refine ZM (l:=t) (i:=0) (by first|omega|exact Nat.mod_lt _ (by omega)) fun x18 hx18=> ?_
  have hzx18:=ht.2 x18 (List.mem_of_getElem? hx18)
  have hLax18:(List.map rd x18.2).length=x18.2.length:=List.length_map ..
  refine k_ix 0 [D.v (.int .i64 (x18.1)),D.list (List.map rd x18.2)] (by first|rfl|omega|(rw [wrap64 _ (by omega) (by omega)];omega)) (Zp hx18) rfl ?_
  refine⟨fun e2=> ?_,fun e2=> ?_⟩
  ·have f21:n≤x18.1:=of_decide_eq_true e2
   refine k_ix 0 [D.v (.int .i64 (x18.1)),D.list (List.map rd x18.2)] (by first|rfl|omega|(rw [wrap64 _ (by omega) (by omega)];omega)) (Zp hx18) rfl ?_
   refine Zgm (l:=x18.2) hzx18.2.2 hzx18.2.1 ?_
   refine Eq.trans (b:= .val (.one (.d (.list (List.map rdc (qsL x18.2)))))) ?_ rfl
   rw [ZmP hx18 f21]
  ·have f21:¬ (n≤x18.1):=of_decide_eq_false e2
   refine⟨Nat×(Int×List RV),fun (i,x)=> [(0,.val (.one (.d (.list (List.map keyD t))))),(1,int n),(5,int (i:Int))],
    fun (i,x)=> [],fun (i,x)=>1≤i∧i≤t.length∧atI t n (i - 1) x,fun (i,x)=>t.length - i,(1,x18),?_,⟨Nat.le_refl _,by omega,ZmR hx18 f21⟩,fun s hs=> ?_⟩
   ·constructor<;>(repeat' (first|exact rfl|exact True.intro|exact⟨_,_,rfl⟩|exact(by decide)|apply And.intro))
    all_goals first|exact congrArg (fun n:Int=>D.v (.int .i64 n)) (by omega)|exact congrArg (fun n:Int=>D.v (.int .i64 n)) (by rw [wrap64 _ (by omega) (by omega)];omega)|(simp;done)
   obtain⟨i,x⟩:=s
   obtain⟨h1,h2,h3⟩:=hs
   refine⟨fun e3=> ?_,fun e3=> ?_⟩
   ·have f30:(i:Int)< ((List.map keyD t).length:Int):=of_decide_eq_true e3
    refine ZM (l:=t) (i:=i) (by first|omega|exact Nat.mod_lt _ (by omega)) fun x35 hx35=> ?_
    have hzx35:=ht.2 x35 (List.mem_of_getElem? hx35)
    have hLax35:(List.map rd x35.2).length=x35.2.length:=List.length_map ..
    refine k_ix i [D.v (.int .i64 (x35.1)),D.list (List.map rd x35.2)] (by first|rfl|omega|(rw [wrap64 _ (by omega) (by omega)];omega)) (Zp hx35) rfl ?_
    refine⟨fun e4=> ?_,fun e4=> ?_⟩
    ·have f39:x35.1≤n:=of_decide_eq_true e4
     refine⟨(i+1,x35),⟨by omega,by omega,by have hh:=ZmQ h3 (by rw [show i - 1+1=i by omega];exact hx35) (by omega);rwa [show i - 1+1=i+1 - 1 by omega] at hh⟩,by simp only;omega,?_⟩
     constructor<;>(repeat' (first|exact rfl|exact True.intro|apply And.intro))
     all_goals first
      |exact congrArg (fun n:Int=>D.v (.int .i64 n)) (by rw [wrap64 _ (by omega) (by omega)];omega)
      |exact congrArg (fun n:Int=>D.v (.int .i64 n)) (by omega)
    ·have f39:¬ (x35.1≤n):=of_decide_eq_false e4
     refine ZM (l:=t) (i:=(i - 1)) (by first|omega|exact Nat.mod_lt _ (by omega)) fun x43 hx43=> ?_
     have hzx43:=ht.2 x43 (List.mem_of_getElem? hx43)
     have hLax43:(List.map rd x43.2).length=x43.2.length:=List.length_map ..
     have he43:x43=x:=Option.some.inj (hx43.symm.trans h3.1)
     have hle43:x43.1≤n:=by rw [he43];exact h3.2.1
     refine k_ix (i - 1) [D.v (.int .i64 (x43.1)),D.list (List.map rd x43.2)] (by first|rfl|omega|(rw [wrap64 _ (by omega) (by omega)];omega)) (Zp hx43) rfl ?_
     refine k_ix i [D.v (.int .i64 (x35.1)),D.list (List.map rd x35.2)] (by first|rfl|omega|(rw [wrap64 _ (by omega) (by omega)];omega)) (Zp hx35) rfl ?_
     refine⟨by kernel_rfl,?_⟩
     refine k_of (x43.1) (by omega) (by omega) fun q51 h51 z51=> ?_
     simp only [cn_z] at z51
     refine k_of (n) (by omega) (by omega) fun q54 h54 z54=> ?_
     simp only [cn_z] at z54
     refine ZfA (x:=cn q54) (y:=cn q51) (by simp only [cn_z];omega) (by simp only [cn_z];omega) fun q56 h56 z56=> ?_
     simp only [cn_z] at z56
     simp only [cn_q] at h56
     refine k_of (x35.1) (by omega) (by omega) fun q59 h59 z59=> ?_
     simp only [cn_z] at z59
     refine ZfA (x:=cn q59) (y:=cn q51) (by simp only [cn_z];omega) (by simp only [cn_z];omega) fun q61 h61 z61=> ?_
     simp only [cn_z] at z61
     simp only [cn_q] at h61
     refine Zm9 (x:=cn q56) (y:=cn q61) (by simp only [cn_z];omega) (by simp only [cn_z];omega) (by rw [cn_q,h61,h59,h51];exact Zjg (by omega)) fun q62 h62 z62=> ?_
     simp only [cn_z] at z62
     simp only [cn_q] at h62
     refine⟨by kernel_rfl,?_⟩
     have hs62:q62=(((n:Rat) - (x43.1:Rat)) / ((x35.1:Rat) - (x43.1:Rat))):=by rw [h62,h56,h61,h59,h54,h51]
     have hmn:(if ((List.map rd x35.2).length:Int)< ((List.map rd x43.2).length:Int) then ((List.map rd x35.2).length:Int) else ((List.map rd x43.2).length:Int))=((min x43.2.length x35.2.length:Nat):Int):=by rw [hLax35,hLax43];split<;>omega
     refine⟨Nat,fun k=> [(6,.val (.one (.ptr 6 0))),(7,.val (.one (.ptr 7 0))),(9,.val (.one (.ptr 9 0))),(11,.val (.one (.row 96 0))),(71,int ((min x43.2.length x35.2.length:Nat):Int)),(72,int (k:Int))],
      fun k=> [(6,.var 42 [.d (.v (.int .i64 (x43.1))),.d (.list (List.map rd x43.2))]),(7,.var 42 [.d (.v (.int .i64 (x35.1))),.d (.list (List.map rd x35.2))]),(9,.var 23 [.d (.v (.bool (cn q62).s)),.d (.v (.string (cn q62).a)),.d (.v (.string (cn q62).d))]),(96,.row 23 3 0 (List.map rdc (itL (((n:Rat) - (x43.1:Rat)) / ((x35.1:Rat) - (x43.1:Rat))) x43.2 x35.2 k)) true)],fun k=>k≤min x43.2.length x35.2.length,fun k=>min x43.2.length x35.2.length - k,0,?_,Nat.zero_le _,fun k hs=> ?_⟩
     ·constructor<;>(repeat' (first|exact rfl|exact True.intro|exact⟨_,_,rfl⟩|exact(by decide)|apply And.intro))
      all_goals first
       |exact congrArg (fun n:Int=>D.v (.int .i64 n)) hmn
       |exact congrArg (fun n:Int=>D.v (.int .i64 n)) hmn.symm
       |exact congrArg (fun n:Int=>D.v (.int .i64 n)) (by omega)
       |(simp;done)
     have hT:(List.map rdc (itL (((n:Rat) - (x43.1:Rat)) / ((x35.1:Rat) - (x43.1:Rat))) x43.2 x35.2 k)).length≤1048576:=by rw [List.length_map,ZfD];omega
     refine⟨fun e5=> ?_,fun e5=> ?_⟩
     ·have f73:(k:Int)< ((min x43.2.length x35.2.length:Nat):Int):=of_decide_eq_true e5
      refine ZM (l:=x43.2) (i:=k) (by first|omega|exact Nat.mod_lt _ (by omega)) fun x79 hx79=> ?_
      have hzx79:=hzx43.2.2 x79 (List.mem_of_getElem? hx79)
      refine k_ix k [D.v (.bool x79.s),D.v (.string x79.a),D.v (.string x79.d)] (by first|rfl|omega|(rw [wrap64 _ (by omega) (by omega)];omega)) (Zp hx79) rfl ?_
      refine ZM (l:=x35.2) (i:=k) (by first|omega|exact Nat.mod_lt _ (by omega)) fun x85 hx85=> ?_
      have hzx85:=hzx35.2.2 x85 (List.mem_of_getElem? hx85)
      refine k_ix k [D.v (.bool x85.s),D.v (.string x85.a),D.v (.string x85.d)] (by first|rfl|omega|(rw [wrap64 _ (by omega) (by omega)];omega)) (Zp hx85) rfl ?_
      refine k_ix k [D.v (.bool x79.s),D.v (.string x79.a),D.v (.string x79.d)] (by first|rfl|omega|(rw [wrap64 _ (by omega) (by omega)];omega)) (Zp hx79) rfl ?_
      refine ZfA (x:=x85) (y:=x79) (by omega) (by omega) fun q92 h92 z92=> ?_
      simp only [cn_z] at z92
      refine Zks (x:=cn q62) (y:=cn q92) (by simp only [cn_z];omega) (by simp only [cn_z];omega) fun q93 h93 z93=> ?_
      simp only [cn_z] at z93
      simp only [cn_q] at h93
      refine Zmt (x:=x79) (y:=cn q93) (by omega) (by simp only [cn_z];omega) fun q94 h94 z94=> ?_
      simp only [cn_z] at z94
      simp only [cn_q] at h94
      refine⟨⟨row1 rfl,(by show ((List.map rdc (itL (((n:Rat) - (x43.1:Rat)) / ((x35.1:Rat) - (x43.1:Rat))) x43.2 x35.2 k)).length+1)*40≤_;omega),(by show ((List.map rdc (itL (((n:Rat) - (x43.1:Rat)) / ((x35.1:Rat) - (x43.1:Rat))) x43.2 x35.2 k)).length+1)≤_;omega)⟩,?_⟩
      refine⟨by kernel_rfl,?_⟩
      have e94:q94=itF (((n:Rat) - (x43.1:Rat)) / ((x35.1:Rat) - (x43.1:Rat))) x43.2 x35.2 k:=by rw [h94,h93,h92,hs62];unfold itF;rw [Zdo hx79,Zdo hx85]
      clear h94
      subst e94
      refine⟨k+1,by omega,by simp only;omega,?_⟩
      constructor<;>(repeat' (first|exact rfl|exact True.intro|apply And.intro))
      all_goals first
       |(rw [Zgp];rfl)
       |exact congrArg (fun n:Int=>D.v (.int .i64 n)) (by rw [wrap64 _ (by omega) (by omega)];omega)
       |exact congrArg (fun n:Int=>D.v (.int .i64 n)) (by omega)
     ·have f73:¬ ((k:Int)< ((min x43.2.length x35.2.length:Nat):Int)):=of_decide_eq_false e5
      refine Eq.trans (b:= .val (.one (.d (.list (List.map rdc (itL (((n:Rat) - (x43.1:Rat)) / ((x35.1:Rat) - (x43.1:Rat))) x43.2 x35.2 k)))))) ?_ rfl
      have hkk:k=min x43.2.length x35.2.length:=by omega
      rw [Zk8 h3 (by rw [show i - 1+1=i by omega];exact hx35) (by omega),← he43,hkk]
   ·have f30:¬ ((i:Int)< ((List.map keyD t).length:Int)):=of_decide_eq_false e3
    refine ZM (l:=t) (i:=(t.length - 1)) (by first|omega|exact Nat.mod_lt _ (by omega)) fun x103 hx103=> ?_
    have hzx103:=ht.2 x103 (List.mem_of_getElem? hx103)
    have hLax103:(List.map rd x103.2).length=x103.2.length:=List.length_map ..
    refine k_ix (t.length - 1) [D.v (.int .i64 (x103.1)),D.list (List.map rd x103.2)] (by first|rfl|omega|(rw [wrap64 _ (by omega) (by omega)];omega)) (Zp hx103) rfl ?_
    refine Zgm (l:=x103.2) hzx103.2.2 hzx103.2.1 ?_
    refine Eq.trans (b:= .val (.one (.d (.list (List.map rdc (qsL x103.2)))))) ?_ rfl
    have hx:x=x103:=Option.some.inj (h3.1.symm.trans (by rw [show i - 1=t.length - 1 by omega];exact hx103))
    rw [Zjp h3 (by omega),hx]
theorem Zmv {t:List (Int×List RV)} {u:Int} (n:Int) (hu:u=n) (ht:tz t) (hn:-9223372036854775808≤n∧n≤9223372036854775807) (k:K (.val (.one (.d (.list (List.map rdc (atL t n))))))):Ask 57 [.val (.one (.d (.list (List.map keyD t)))),int u] K:=by
 subst hu;exact use (ZkM t u ht hn) rfl k
set_option maxHeartbeats 2000000 in
theorem ZkO (t:List (Int×List RV)) (n:Int) (ht:tz t) (hn:-9223372036854775808≤n∧n≤9223372036854775807):Spec Tryz.prog Tab 16 [.val (.one (.d (.list (List.map keyD t)))),int n] (.val (.one (.d (.list (List.map q3d (atL t n)))))):=by
 have hL:(List.map keyD t).length=t.length:=List.length_map ..
 have ht1:=ht.1
 refine Ze Tryz.func16 rfl rfl Tryz.ntmps16 rfl (by kernel_rfl) rfl rfl ?_
 refine⟨fun e1=> ?_,fun e1=> ?_⟩
 ·have f15:((List.map keyD t).length:Int)=0:=Zcf e1
  refine Eq.trans (b:= .val (.one (.d (.list ([]))))) ?_ rfl
  have:t= []:=List.eq_nil_of_length_eq_zero (by omega)
  subst this
  rfl
 ·have f15:¬ (((List.map keyD t).length:Int)=0):=Zcg e1
  refine ZM (l:=t) (i:=0) (by first|omega|exact Nat.mod_lt _ (by omega)) fun x17 hx17=> ?_
  have hzx17:=ht.2 x17 (List.mem_of_getElem? hx17)
  have hLax17:(List.map rd x17.2).length=x17.2.length:=List.length_map ..
  refine k_ix 0 [D.v (.int .i64 (x17.1)),D.list (List.map rd x17.2)] (by first|rfl|omega|(rw [wrap64 _ (by omega) (by omega)];omega)) (Zp hx17) rfl ?_
  refine⟨fun e2=> ?_,fun e2=> ?_⟩
  ·have f22:n≤x17.1:=of_decide_eq_true e2
   refine ZiS (l:=x17.2) hzx17.2.2 hzx17.2.1 ?_
   refine Eq.trans (b:= .val (.one (.d (.list (List.map q3d (qsL x17.2)))))) ?_ rfl
   rw [ZmP hx17 f22]
  ·have f22:¬ (n≤x17.1):=of_decide_eq_false e2
   refine Zms 1 (List.map keyD (t.drop 1)) (by first|omega|(simp;omega)|simp) (by first|rfl|omega|(rw [wrap64 _ (by omega) (by omega)];omega)) (Zkf fun _=>rfl) (List.map_drop.symm) ?_
   have hLd:(List.map keyD (t.drop 1)).length=t.length - 1:=by rw [List.length_map,List.length_drop]
   have hLd2:(t.drop 1).length=t.length - 1:=List.length_drop ..
   refine⟨Nat×(Int×List RV),fun (i,x)=> [(1,int n),(5,.val (.one (.ptr 5 0))),(27,.val (.one (.d (.list (List.map keyD (t.drop 1)))))),(28,int ((List.map keyD (t.drop 1)).length:Int)),(29,int (i:Int))],
    fun (i,x)=> [(5,.var 42 [.d (.v (.int .i64 (x.1))),.d (.list (List.map rd x.2))])],fun (i,x)=>i+1≤t.length∧atI t n i x,fun (i,x)=>t.length - i,(0,x17),?_,⟨by omega,ZmR hx17 f22⟩,fun s hs=> ?_⟩
   ·constructor<;>(repeat' (first|exact rfl|exact True.intro|exact⟨_,_,rfl⟩|exact(by decide)|apply And.intro))
    all_goals first|exact congrArg (fun n:Int=>D.v (.int .i64 n)) (by omega)|exact congrArg (fun n:Int=>D.v (.int .i64 n)) (by rw [wrap64 _ (by omega) (by omega)];omega)|(simp;done)
   obtain⟨i,x⟩:=s
   obtain⟨h2,h3⟩:=hs
   have hzx:=ht.2 x (List.mem_of_getElem? h3.1)
   have hLax:(List.map rd x.2).length=x.2.length:=List.length_map ..
   have hle:=h3.2.1
   refine⟨fun e3=> ?_,fun e3=> ?_⟩
   ·have f30:(i:Int)< ((List.map keyD (t.drop 1)).length:Int):=of_decide_eq_true e3
    refine ZM (l:=(t.drop 1)) (i:=i) (by first|omega|exact Nat.mod_lt _ (by omega)) fun x31 hx31=> ?_
    have hy31:t[i+1]? =some x31:=by
     have:=hx31
     rw [List.getElem?_drop] at this
     rwa [Nat.add_comm] at this
    have hzx31:=ht.2 x31 (List.mem_of_getElem? hy31)
    have hLax31:(List.map rd x31.2).length=x31.2.length:=List.length_map ..
    refine k_ix i [D.v (.int .i64 (x31.1)),D.list (List.map rd x31.2)] (by first|rfl|omega|(rw [wrap64 _ (by omega) (by omega)];omega)) (Zp hx31) rfl ?_
    refine⟨fun e4=> ?_,fun e4=> ?_⟩
    ·have f36:x31.1 >n:=of_decide_eq_true e4
     refine k_N3 (n) (by omega) (by omega) fun q38 h38 z38=> ?_
     refine k_N3 (x.1) (by omega) (by omega) fun q41 h41 z41=> ?_
     refine ZiR (p:=q38) (q:=q41) (by omega) (by omega) fun q42 h42 z42=> ?_
     refine k_N3 (x31.1) (by omega) (by omega) fun q45 h45 z45=> ?_
     refine k_N3 (x.1) (by omega) (by omega) fun q48 h48 z48=> ?_
     refine ZiR (p:=q45) (q:=q48) (by omega) (by omega) fun q49 h49 z49=> ?_
     refine Zmx (p:=q42) (q:=q49) (by omega) (by omega) (by rw [h49,h45,h48];exact Zjg (by omega)) fun q50 h50 z50=> ?_
     refine⟨by kernel_rfl,?_⟩
     have hs50:q50=(((n:Rat) - (x.1:Rat)) / ((x31.1:Rat) - (x.1:Rat))):=by rw [h50,h42,h49,h38,h41,h45,h48]
     have hmn:(if ((List.map rd x31.2).length:Int)< ((List.map rd x.2).length:Int) then ((List.map rd x31.2).length:Int) else ((List.map rd x.2).length:Int))=((min x.2.length x31.2.length:Nat):Int):=by rw [hLax31,hLax];split<;>omega
     refine⟨Nat,fun k=> [(5,.val (.one (.ptr 5 0))),(7,.val (.one (.ptr 7 0))),(8,.val (.one (.ptr 8 0))),(9,.val (.one (.row 84 0))),(57,int ((min x.2.length x31.2.length:Nat):Int)),(58,int (k:Int))],
      fun k=> [(5,.var 42 [.d (.v (.int .i64 (x.1))),.d (.list (List.map rd x.2))]),(7,.var 42 [.d (.v (.int .i64 (x31.1))),.d (.list (List.map rd x31.2))]),(8,.var 98 [.d (.v (.bool (decide (q50.num< 0)))),.d (.list (W (w32 q50.num.natAbs))),.d (.list (W (w32 q50.den)))]),(84,.row 98 3 0 (List.map q3d (itL (((n:Rat) - (x.1:Rat)) / ((x31.1:Rat) - (x.1:Rat))) x.2 x31.2 k)) true)],fun k=>k≤min x.2.length x31.2.length,fun k=>min x.2.length x31.2.length - k,0,?_,Nat.zero_le _,fun k hs=> ?_⟩
     ·constructor<;>(repeat' (first|exact rfl|exact True.intro|exact⟨_,_,rfl⟩|exact(by decide)|apply And.intro))
      all_goals first
       |exact congrArg (fun n:Int=>D.v (.int .i64 n)) hmn
       |exact congrArg (fun n:Int=>D.v (.int .i64 n)) hmn.symm
       |exact congrArg (fun n:Int=>D.v (.int .i64 n)) (by omega)
       |(simp;done)
     have hT:(List.map q3d (itL (((n:Rat) - (x.1:Rat)) / ((x31.1:Rat) - (x.1:Rat))) x.2 x31.2 k)).length≤1048576:=by rw [List.length_map,ZfD];omega
     refine⟨fun e5=> ?_,fun e5=> ?_⟩
     ·have f59:(k:Int)< ((min x.2.length x31.2.length:Nat):Int):=of_decide_eq_true e5
      refine ZM (l:=x.2) (i:=k) (by first|omega|exact Nat.mod_lt _ (by omega)) fun x64 hx64=> ?_
      have hzx64:=hzx.2.2 x64 (List.mem_of_getElem? hx64)
      refine k_ix k [D.v (.bool x64.s),D.v (.string x64.a),D.v (.string x64.d)] (by first|rfl|omega|(rw [wrap64 _ (by omega) (by omega)];omega)) (Zp hx64) rfl ?_
      refine ZfC (x:=x64) (by omega) fun q66 h66 z66=> ?_
      refine ZM (l:=x31.2) (i:=k) (by first|omega|exact Nat.mod_lt _ (by omega)) fun x70 hx70=> ?_
      have hzx70:=hzx31.2.2 x70 (List.mem_of_getElem? hx70)
      refine k_ix k [D.v (.bool x70.s),D.v (.string x70.a),D.v (.string x70.d)] (by first|rfl|omega|(rw [wrap64 _ (by omega) (by omega)];omega)) (Zp hx70) rfl ?_
      refine ZfC (x:=x70) (by omega) fun q72 h72 z72=> ?_
      refine⟨by kernel_rfl,?_⟩
      refine k_N3 (1) (by omega) (by omega) fun q75 h75 z75=> ?_
      refine ZiR (p:=q75) (q:=q50) (by omega) (by omega) fun q77 h77 z77=> ?_
      refine Zk3 (p:=q66) (q:=q77) (by omega) (by omega) fun q78 h78 z78=> ?_
      refine Zk3 (p:=q72) (q:=q50) (by omega) (by omega) fun q81 h81 z81=> ?_
      refine Zk4 (p:=q78) (q:=q81) (by omega) (by omega) fun q82 h82 z82=> ?_
      refine⟨⟨row1 rfl,(by show ((List.map q3d (itL (((n:Rat) - (x.1:Rat)) / ((x31.1:Rat) - (x.1:Rat))) x.2 x31.2 k)).length+1)*56≤_;omega),(by show ((List.map q3d (itL (((n:Rat) - (x.1:Rat)) / ((x31.1:Rat) - (x.1:Rat))) x.2 x31.2 k)).length+1)≤_;omega)⟩,?_⟩
      refine⟨by kernel_rfl,?_⟩
      have e82:q82=itF (((n:Rat) - (x.1:Rat)) / ((x31.1:Rat) - (x.1:Rat))) x.2 x31.2 k:=by
       rw [h82,h78,h81,h77,h75,h66,h72,hs50]
       unfold itF
       rw [Zdo hx64,Zdo hx70,show ((1:Int):Rat)=1 from rfl]
       generalize (((n:Rat) - (x.1:Rat)) / ((x31.1:Rat) - (x.1:Rat)))=s
       grind
      clear h82
      subst e82
      refine⟨k+1,by omega,by simp only;omega,?_⟩
      constructor<;>(repeat' (first|exact rfl|exact True.intro|apply And.intro))
      all_goals first
       |(rw [Zgp];rfl)
       |exact congrArg (fun n:Int=>D.v (.int .i64 n)) (by rw [wrap64 _ (by omega) (by omega)];omega)
       |exact congrArg (fun n:Int=>D.v (.int .i64 n)) (by omega)
     ·have f59:¬ ((k:Int)< ((min x.2.length x31.2.length:Nat):Int)):=of_decide_eq_false e5
      refine Eq.trans (b:= .val (.one (.d (.list (List.map q3d (itL (((n:Rat) - (x.1:Rat)) / ((x31.1:Rat) - (x.1:Rat))) x.2 x31.2 k)))))) ?_ rfl
      have hkk:k=min x.2.length x31.2.length:=by omega
      rw [Zk8 h3 hy31 (by omega),hkk]
    ·have f36:¬ (x31.1 >n):=of_decide_eq_false e4
     refine⟨(i+1,x31),⟨by omega,ZmQ h3 hy31 (by omega)⟩,by simp only;omega,?_⟩
     constructor<;>(repeat' (first|exact rfl|exact True.intro|apply And.intro))
     all_goals first
      |exact congrArg (fun n:Int=>D.v (.int .i64 n)) (by rw [wrap64 _ (by omega) (by omega)];omega)
      |exact congrArg (fun n:Int=>D.v (.int .i64 n)) (by omega)
   ·have f30:¬ ((i:Int)< ((List.map keyD (t.drop 1)).length:Int)):=of_decide_eq_false e3
    refine ZiS (l:=x.2) hzx.2.2 hzx.2.1 ?_
    refine Eq.trans (b:= .val (.one (.d (.list (List.map q3d (qsL x.2)))))) ?_ rfl
    rw [Zjp h3 (by omega)]
theorem Znb {t:List (Int×List RV)} {u:Int} (n:Int) (hu:u=n) (ht:tz t) (hn:-9223372036854775808≤n∧n≤9223372036854775807) (k:K (.val (.one (.d (.list (List.map q3d (atL t n))))))):Ask 16 [.val (.one (.d (.list (List.map keyD t)))),int u] K:=by
 subst hu;exact use (ZkO t u ht hn) rfl k
end
end Go.Proofs.YtbgokkfhohodgaaGreatDoor.eng
