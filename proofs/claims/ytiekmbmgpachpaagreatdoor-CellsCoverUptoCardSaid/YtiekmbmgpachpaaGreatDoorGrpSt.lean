/- Joined by wip/bundle.py: XFnO XStuA XStuB XStuC XStuD XStuE XStuF XStuG. -/
import Derived.Test.YtiekmbmgpachpaaGreatDoorWg
import Derived.Test.YtiekmbmgpachpaaGreatDoorGrpS
import Derived.Test.YtiekmbmgpachpaaGreatDoorGrpT
import Derived.Test.YtiekmbmgpachpaaGreatDoorGrpL
import Derived.Test.YtiekmbmgpachpaaGreatDoorGrpP
set_option maxRecDepth 100000
namespace Go.Proofs.YtiekmbmgpachpaaGreatDoor.eng
open Go.RowKit num mem seg q held ratA ratB ratC ratD ratE vars ratF
theorem Zg4 (own : List Nat) {f : FuncId} {fn : Func} {c : Code} {nt : Nat} (hf : Tryz.prog.funcs[f]? = some fn) (hb : fn.body = some c) (hn : (fn.name == "runtime.NumGoroutine") = false) (hnt : fn.ntmps = nt) {rs : List ResultVar} (hrs : fn.results = ⟨rs⟩)
  (hc:codeOk c=true) {args:List AV} {T n:Nat} {xs:List (List D)} (hargs:freeAVs args=true) (hlen:Nat.ble args.length nt=true)
  (h:sp (prmOwn Tryz.prog nt own) c (RetNew rs T n xs) (envArgs 0 args) noMem):SpecR Tryz.prog Tab f args T n xs:=
 Zhy (p:=prmOwn Tryz.prog nt own) hf hb hn hnt rfl rfl hrs Zgj (fun _ _ h hb=>h.below hb (Nat.le_refl _)) mixed hc hargs hlen h
end Go.Proofs.YtiekmbmgpachpaaGreatDoor.eng
namespace Go.Proofs.YtiekmbmgpachpaaGreatDoor.eng
open Go.RowKit num mem seg q held ratA ratB ratC ratD ratE vars ratF trq
section
variable {K : AV → Prop}
theorem Zmf {q:Rat} (h:q≠0):absV q≠0:=by unfold absV;split<;>grind
def evQ:List RV→Rat→Rat
 | [],_=>0
 |a :: l,x=>evQ l x*x+a.q
theorem Zni {P:List RV} {i:Nat} {y:RV} (h:P[i]? =some y) (x:Rat):evQ (P.drop i) x=evQ (P.drop (i+1)) x*x+y.q:=by
 have hi:=(List.getElem?_eq_some_iff.1 h).1
 rw [List.drop_eq_getElem_cons hi,show P[i]=y from(List.getElem?_eq_some_iff.1 h).2];rfl
theorem Zpk {x : RV} {B : Nat} (hx : x.z ≤ B) : ∀ (l : List RV), (∀ y, y ∈ l → y.z ≤ B) → qs (evQ l x.q) ≤ 8 + l.length * (2 * B + 4)
  | [], _ => by have : qs (0 : Rat) ≤ 8 := by decide +kernel
                exact Nat.le_trans this (Nat.le_add_right _ _)
  | a :: l, h => by
    have ih := Zpk hx l fun y hy => h y (List.mem_cons_of_mem _ hy)
    have ha := h a List.mem_cons_self
    have h1 := ZT (evQ l x.q) x.q
    have h2 := Z8 (evQ l x.q * x.q) a.q
    have := x.z1
    have := a.z1
    show qs (evQ l x.q * x.q + a.q) ≤ _
    rw [List.length_cons, Nat.add_mul, Nat.one_mul]
    omega
theorem Zk8 {n:Nat} (h:n≤1048576):n*2097156≤2199027449856:=Nat.le_trans (Nat.mul_le_mul_right _ h) (by decide)
set_option maxHeartbeats 2000000 in
theorem ZjL (P:List RV) (x:RV) (hP:P.length≤1048576∧∀ y,y∈P→y.z≤1048576) (hx:x.z≤1048576):Spec Tryz.prog Tab 135 [.val (.one (.d (.list (List.map rd P)))),rat x] (rat (cn (evQ P x.q))):=by
 have hL:(List.map rd P).length=P.length:=List.length_map ..
 have hP1:=hP.1
 have hx1:=x.z1
 refine Zd Tryz.func135 rfl rfl Tryz.ntmps135 rfl (by kernel_rfl) rfl rfl ?_
 refine k_of (0) (by omega) (by omega) fun q7 h7 z7=> ?_
 simp only [cn_z] at z7
 have e7:q7=evQ (P.drop P.length) x.q:=by rw [List.drop_length];exact h7
 refine⟨Nat,fun j=> [(0,.val (.one (.d (.list (List.map rd P))))),(3,.val (.one (.ptr 3 0))),(4,.val (.one (.ptr 4 0))),(5,.val (.one (.ptr 5 0))),(6,int ((j:Int) - 1))],
  fun j=> [(3,.var 27 [.d (.v (.bool x.s)),.d (.v (.string x.a)),.d (.v (.string x.d))]),(4,.var 27 [.d (.v (.bool z0.s)),.d (.v (.string z0.a)),.d (.v (.string z0.d))]),(5,.var 27 [.d (.v (.bool (cn (evQ (P.drop j) x.q)).s)),.d (.v (.string (cn (evQ (P.drop j) x.q)).a)),.d (.v (.string (cn (evQ (P.drop j) x.q)).d))])],fun j=>j≤P.length,fun j=>j,P.length,?_,Nat.le_refl _,fun j hs=> ?_⟩
 ·constructor<;>(repeat' (first|exact rfl|exact True.intro|exact⟨_,_,rfl⟩|exact(by decide)|apply And.intro))
  all_goals first
   |exact congrArg (fun q:Rat=>D.v (.bool (cn q).s)) e7
   |exact congrArg (fun q:Rat=>D.v (.bool (cn q).s)) e7.symm
   |exact congrArg (fun q:Rat=>D.v (.string (cn q).a)) e7
   |exact congrArg (fun q:Rat=>D.v (.string (cn q).a)) e7.symm
   |exact congrArg (fun q:Rat=>D.v (.string (cn q).d)) e7
   |exact congrArg (fun q:Rat=>D.v (.string (cn q).d)) e7.symm
   |exact congrArg (fun n:Int=>D.v (.int .i64 n)) (by rw [wrap64 _ (by omega) (by omega)];omega)
   |exact congrArg (fun n:Int=>D.v (.int .i64 n)) (by omega)
   |(simp;done)
 have hb:=Zpk (B:=1048576) hx (P.drop j) fun y hy=>hP.2 y (List.mem_of_mem_drop hy)
 rw [List.length_drop] at hb
 have hm:=Zk8 (n:=P.length - j) (by omega)
 refine⟨fun e1=> ?_,fun e1=> ?_⟩
 ·have f12:(j:Int) - 1≥0:=of_decide_eq_true e1
  refine ZaL (x:=cn (evQ (P.drop j) x.q)) (y:=x) (by simp only [cn_z];omega) (by omega) fun q17 h17 z17=> ?_
  simp only [cn_z] at z17
  simp only [cn_q] at h17
  obtain⟨x20,hx20⟩:∃ vv,P[(j - 1)]? =some vv:=⟨_,List.getElem?_eq_getElem (by first|omega|exact Nat.mod_lt _ (by omega))⟩
  have hzx20:=hP.2 x20 (List.mem_of_getElem? hx20)
  refine k_ix (j - 1) [D.v (.bool x20.s),D.v (.string x20.a),D.v (.string x20.d)] (by first|rfl|omega|(rw [wrap64 _ (by omega) (by omega)];omega)|(rw [wrap64 _ (by omega) (by omega)];split<;>omega)) (Zj hx20) rfl ?_
  refine Zcj (x:=cn q17) (y:=x20) (by simp only [cn_z];omega) (by omega) fun q22 h22 z22=> ?_
  simp only [cn_z] at z22
  simp only [cn_q] at h22
  refine⟨by kernel_rfl,?_⟩
  have e22:q22=evQ (P.drop (j - 1)) x.q:=by rw [Zni hx20,h22,h17,show j - 1+1=j from by omega]
  refine⟨j - 1,by omega,by simp only;omega,?_⟩
  constructor<;>(repeat' (first|exact rfl|exact True.intro|apply And.intro))
  all_goals first
   |exact congrArg (fun q:Rat=>D.v (.bool (cn q).s)) e22
   |exact congrArg (fun q:Rat=>D.v (.bool (cn q).s)) e22.symm
   |exact congrArg (fun q:Rat=>D.v (.string (cn q).a)) e22
   |exact congrArg (fun q:Rat=>D.v (.string (cn q).a)) e22.symm
   |exact congrArg (fun q:Rat=>D.v (.string (cn q).d)) e22
   |exact congrArg (fun q:Rat=>D.v (.string (cn q).d)) e22.symm
   |exact congrArg (fun n:Int=>D.v (.int .i64 n)) (by rw [wrap64 _ (by omega) (by omega)];omega)
   |exact congrArg (fun n:Int=>D.v (.int .i64 n)) (by rw [wrap64 _ (by omega) (by omega)];omega)
   |exact congrArg (fun n:Int=>D.v (.int .i64 n)) (by omega)
 ·have f12:¬ ((j:Int) - 1≥0):=of_decide_eq_false e1
  refine Eq.trans (b:=rat (cn (evQ (P.drop j) x.q))) ?_ rfl
  obtain rfl:j=0:=by omega
  rw [List.drop_zero]
  all_goals rfl
theorem Zo8 {P:List RV} {x:RV} (hP:P.length≤1048576∧∀ y,y∈P→y.z≤1048576) (hx:x.z≤1048576) (k:∀ q,q=evQ P x.q→K (rat (cn q))):Ask 135 [.val (.one (.d (.list (List.map rd P)))),rat x] K:=use (ZjL P x hP hx) rfl (k _ rfl)
def tlQ (P:List RV) (n:Nat):List Rat:=(P.take n).map RV.q
theorem ZcQ {P:List RV} {n:Nat} (h:n≤P.length):(tlQ P n).length=n:=by unfold tlQ;rw [List.length_map,List.length_take,Nat.min_eq_left h]
theorem Zht {P:List RV} {n i:Nat} {y:RV} (h:P[i]? =some y) (hi:i< n):(tlQ P n)[i]? =some y.q:=by unfold tlQ;rw [List.getElem?_map,List.getElem?_take_of_lt hi,h];rfl
def trN:List RV→Nat
 | []=>0
 |a :: l=>if trN l=0 then (if a.q=0 then 0 else 1) else trN l+1
theorem ZjY:∀ P:List RV,trN P≤P.length
 | []=>Nat.le_refl _
 |a :: l=>by
  have ih:=ZjY l
  unfold trN
  rw [List.length_cons]
  split
  ·split<;>omega
  ·omega
theorem ZcO:∀ (P:List RV) (n:Nat),n≤P.length→(∀ (j:Nat) (y:RV),n≤j→P[j]? =some y→y.q=0)→(n=0∨∃ y:RV,P[n - 1]? =some y∧y.q≠0)→trN P=n
 | [],n,h,_,_=>by
  have:n=0:=by simpa using h
  subst this;rfl
 |a :: l,n,h,hz,hn=>by
  cases n with
  |zero=>
   have hl:trN l=0:=ZcO l 0 (Nat.zero_le _) (fun j y _ hj=>hz (j+1) y (Nat.zero_le _) (by simpa using hj)) (.inl rfl)
   unfold trN
   rw [if_pos hl,if_pos (hz 0 a (Nat.le_refl _) rfl)]
  |succ m=>
   rcases hn with hn|⟨y,hy,hq⟩
   ·omega
   ·have hl:trN l=m:=by
     refine ZcO l m (by simpa using h) (fun j y hj hy=>hz (j+1) y (by omega) (by simpa using hy)) ?_
     cases m with
     |zero=>exact .inl rfl
     |succ k=>exact .inr ⟨y,by simpa using hy,hq⟩
    unfold trN
    rw [hl]
    cases m with
    |zero=>
     have:a=y:=Option.some.inj (by simpa using hy)
     rw [if_pos rfl,if_neg (by rw [this];exact hq)]
    |succ k=>rw [if_neg (by omega)]
def trQ (P:List RV):List Rat:=tlQ P (trN P)
def flQ (l:List Rat) (i:Nat):List (List D):=List.map rdc (l.take i)++List.replicate (l.length - i) (rd z0)
theorem ZfY (l:List Rat) {n:Nat} (h:l.length=n):List.replicate ((n:Int)).toNat (rd z0)=flQ l 0:=by subst h;rfl
theorem Zbf (l:List Rat) {i:Nat} (h:i≤l.length):(flQ l i).length=l.length:=by unfold flQ;rw [List.length_append,List.length_map,List.length_take,List.length_replicate];omega
theorem Zbe {l:List Rat} {i:Nat} {q:Rat} (h:l[i]? =some q):(flQ l i).set i (rdc q)=flQ l (i+1):=by
 have hi:=(List.getElem?_eq_some_iff.1 h).1
 have hl:(List.map rdc (l.take i)).length=i:=by rw [List.length_map,List.length_take];omega
 unfold flQ
 rw [List.set_append,hl,if_neg (Nat.lt_irrefl _),Nat.sub_self,show l.length - i=(l.length - (i+1))+1 by omega,List.replicate_succ,List.set_cons_zero,List.take_add_one,h,List.map_append,List.append_assoc]
 rfl
theorem Zbg (l:List Rat):flQ l l.length=List.map rdc l:=by unfold flQ;rw [List.take_length,Nat.sub_self];simp
set_option maxHeartbeats 2000000 in
theorem Zgl (P:List RV) (hP:P.length≤1048576∧∀ y,y∈P→y.z≤1048576):SpecR Tryz.prog Tab 113 [.val (.one (.d (.list (List.map rd P))))] 27 3 (List.map rdc (trQ P)):=by
 have hL:(List.map rd P).length=P.length:=List.length_map ..
 have hP1:=hP.1
 refine ZlE Tryz.func113 rfl rfl Tryz.ntmps113 rfl (by kernel_rfl) rfl rfl ?_
 refine⟨Nat,fun n=> [(0,.val (.one (.d (.list (List.map rd P))))),(3,int (n:Int))],
  fun n=> [],fun n=>n≤P.length∧∀ (j:Nat) (y:RV),n≤j→P[j]? =some y→y.q=0,fun n=>n,P.length,?_,⟨Nat.le_refl _,fun j y hj hy=>by have:=(List.getElem?_eq_some_iff.1 hy).1;omega⟩,fun n hs=> ?_⟩
 ·constructor<;>(repeat' (first|exact rfl|exact True.intro|exact⟨_,_,rfl⟩|exact(by decide)|apply And.intro))
  all_goals first|exact congrArg (fun n:Int=>D.v (.int .i64 n)) (by omega)|exact congrArg (fun n:Int=>D.v (.int .i64 n)) (by rw [wrap64 _ (by omega) (by omega)];omega)|(simp;done)
 have g1:=hs.1
 have g2:=hs.2
 refine fork (fun e1=> ?_) (fun e1=> ?_)
 ·have f10:(n:Int) >0:=of_decide_eq_true e1
  obtain⟨x14,hx14⟩:∃ vv,P[(n - 1)]? =some vv:=⟨_,List.getElem?_eq_getElem (by first|omega|exact Nat.mod_lt _ (by omega))⟩
  have hzx14:=hP.2 x14 (List.mem_of_getElem? hx14)
  refine k_ix (n - 1) [D.v (.bool x14.s),D.v (.string x14.a),D.v (.string x14.d)] (by first|rfl|omega|(rw [wrap64 _ (by omega) (by omega)];omega)|(rw [wrap64 _ (by omega) (by omega)];split<;>omega)) (Zj hx14) rfl ?_
  refine Zdc (x:=x14) (by omega) fun n16 h16=> ?_
  refine⟨fun e2=> ?_,fun e2=> ?_⟩
  ·have f18:x14.q=0:=(Zar h16).1 (ZaN e2)
   refine⟨n - 1,⟨by omega,fun j y hj hy=>by
    by_cases e:j=n - 1
    ·subst e;obtain rfl:=Option.some.inj (hx14.symm.trans hy);exact f18
    ·exact g2 j y (by omega) hy⟩,by simp only;omega,?_⟩
   constructor<;>(repeat' (first|exact rfl|exact True.intro|apply And.intro))
   all_goals first
    |exact congrArg (fun n:Int=>D.v (.int .i64 n)) (by rw [wrap64 _ (by omega) (by omega)];omega)
    |exact congrArg (fun n:Int=>D.v (.int .i64 n)) (by omega)
  ·have f18:¬ (x14.q=0):=fun hh=>ZaO e2 ((Zar h16).2 hh)
   refine⟨⟨by omega,rfl,(by show ((n:Int))*40≤_;omega),by omega⟩,?_⟩
   have hcut:n=0∨∃ y:RV,P[n - 1]? =some y∧y.q≠0:= .inr ⟨x14,hx14,f18⟩
   have hN:(tlQ P n).length=n:=ZcQ g1
   have hfl:∀ i,i≤n→(flQ (tlQ P n) i).length=n:=fun i hi=>by rw [Zbf _ (by omega),hN]
   have hf0:=ZfY (tlQ P n) hN
   refine⟨Nat,fun i=> [(0,.val (.one (.d (.list (List.map rd P))))),(4,.val (.one (.row 22 0))),(24,int (n:Int)),(25,int (i:Int))],
    fun i=> [(22,.row 27 3 0 (flQ (tlQ P n) i) true)],fun i=>i≤n,fun i=>n - i,0,?_,Nat.zero_le _,fun i hs=> ?_⟩
   ·constructor<;>(repeat' (first|exact rfl|exact True.intro|exact⟨_,_,rfl⟩|exact(by decide)|apply And.intro))
    all_goals first
     |exact hf0
     |exact hf0.symm
     |exact congrArg (fun n:Int=>D.v (.int .i64 n)) (by rw [List.length_replicate,Int.toNat_natCast])
     |exact congrArg (fun n:Int=>D.v (.int .i64 n)) (by omega)
     |(simp;done)
   have hfi:=hfl i hs
   refine⟨fun e3=> ?_,fun e3=> ?_⟩
   ·have f26:(i:Int)< (n:Int):=of_decide_eq_true e3
    obtain⟨x32,hx32⟩:∃ vv,P[i]? =some vv:=⟨_,List.getElem?_eq_getElem (by first|omega|exact Nat.mod_lt _ (by omega))⟩
    have hzx32:=hP.2 x32 (List.mem_of_getElem? hx32)
    refine k_ix i [D.v (.bool x32.s),D.v (.string x32.a),D.v (.string x32.d)] (by first|rfl|omega|(rw [wrap64 _ (by omega) (by omega)];omega)|(rw [wrap64 _ (by omega) (by omega)];split<;>omega)) (Zj hx32) rfl ?_
    refine k_ix i [D.v (.bool x32.s),D.v (.string x32.a),D.v (.string x32.d)] (by first|rfl|omega|(rw [wrap64 _ (by omega) (by omega)];omega)|(rw [wrap64 _ (by omega) (by omega)];split<;>omega)) (Zj hx32) rfl ?_
    refine Zbz (x:=x32) (by omega) fun q38 h38 z38=> ?_
    simp only [cn_z] at z38
    refine k_at_own' i (by first|rfl|omega|(rw [wrap64 _ (by omega) (by omega)];omega)|(rw [wrap64 _ (by omega) (by omega)];split<;>omega)) (by first|omega|(simp;omega)) ?_
    refine⟨by first|omega|(simp;omega),?_⟩
    refine⟨by kernel_rfl,?_⟩
    have e38:(flQ (tlQ P n) i).set i (rdc q38)=flQ (tlQ P n) (i+1):=by rw [h38];exact Zbe (Zht hx32 (by omega))
    refine⟨i+1,by omega,by simp only;omega,?_⟩
    constructor<;>(repeat' (first|exact rfl|exact True.intro|apply And.intro))
    all_goals first
     |exact e38
     |exact e38.symm
     |exact congrArg (fun n:Int=>D.v (.int .i64 n)) (by rw [wrap64 _ (by omega) (by omega)];omega)
     |exact congrArg (fun n:Int=>D.v (.int .i64 n)) (by omega)
   ·have f26:¬ ((i:Int)< (n:Int)):=of_decide_eq_false e3
    obtain rfl:i=n:=by omega
    have hT:trQ P=tlQ P i:=by unfold trQ;rw [ZcO P i g1 g2 hcut]
    rw [hT,← Zbg,hN]
    all_goals exact rfl
 ·have f10:¬ ((n:Int) >0):=of_decide_eq_false e1
  refine⟨fun e=>absurd e (by decide),fun _=> ?_⟩
  refine⟨⟨by omega,rfl,(by show ((n:Int))*40≤_;omega),by omega⟩,?_⟩
  have hcut:n=0∨∃ y:RV,P[n - 1]? =some y∧y.q≠0:= .inl (by omega)
  have hN:(tlQ P n).length=n:=ZcQ g1
  have hfl:∀ i,i≤n→(flQ (tlQ P n) i).length=n:=fun i hi=>by rw [Zbf _ (by omega),hN]
  have hf0:=ZfY (tlQ P n) hN
  refine⟨Nat,fun i=> [(0,.val (.one (.d (.list (List.map rd P))))),(4,.val (.one (.row 22 0))),(24,int (n:Int)),(25,int (i:Int))],
   fun i=> [(22,.row 27 3 0 (flQ (tlQ P n) i) true)],fun i=>i≤n,fun i=>n - i,0,?_,Nat.zero_le _,fun i hs=> ?_⟩
  ·constructor<;>(repeat' (first|exact rfl|exact True.intro|exact⟨_,_,rfl⟩|exact(by decide)|apply And.intro))
   all_goals first
    |exact hf0
    |exact hf0.symm
    |exact congrArg (fun n:Int=>D.v (.int .i64 n)) (by rw [List.length_replicate,Int.toNat_natCast])
    |exact congrArg (fun n:Int=>D.v (.int .i64 n)) (by omega)
    |(simp;done)
  have hfi:=hfl i hs
  refine⟨fun e4=> ?_,fun e4=> ?_⟩
  ·have f26:(i:Int)< (n:Int):=of_decide_eq_true e4
   obtain⟨x32,hx32⟩:∃ vv,P[i]? =some vv:=⟨_,List.getElem?_eq_getElem (by first|omega|exact Nat.mod_lt _ (by omega))⟩
   have hzx32:=hP.2 x32 (List.mem_of_getElem? hx32)
   refine k_ix i [D.v (.bool x32.s),D.v (.string x32.a),D.v (.string x32.d)] (by first|rfl|omega|(rw [wrap64 _ (by omega) (by omega)];omega)|(rw [wrap64 _ (by omega) (by omega)];split<;>omega)) (Zj hx32) rfl ?_
   refine k_ix i [D.v (.bool x32.s),D.v (.string x32.a),D.v (.string x32.d)] (by first|rfl|omega|(rw [wrap64 _ (by omega) (by omega)];omega)|(rw [wrap64 _ (by omega) (by omega)];split<;>omega)) (Zj hx32) rfl ?_
   refine Zbz (x:=x32) (by omega) fun q38 h38 z38=> ?_
   simp only [cn_z] at z38
   refine k_at_own' i (by first|rfl|omega|(rw [wrap64 _ (by omega) (by omega)];omega)|(rw [wrap64 _ (by omega) (by omega)];split<;>omega)) (by first|omega|(simp;omega)) ?_
   refine⟨by first|omega|(simp;omega),?_⟩
   refine⟨by kernel_rfl,?_⟩
   have e38:(flQ (tlQ P n) i).set i (rdc q38)=flQ (tlQ P n) (i+1):=by rw [h38];exact Zbe (Zht hx32 (by omega))
   refine⟨i+1,by omega,by simp only;omega,?_⟩
   constructor<;>(repeat' (first|exact rfl|exact True.intro|apply And.intro))
   all_goals first
    |exact e38
    |exact e38.symm
    |exact congrArg (fun n:Int=>D.v (.int .i64 n)) (by rw [wrap64 _ (by omega) (by omega)];omega)
    |exact congrArg (fun n:Int=>D.v (.int .i64 n)) (by omega)
  ·have f26:¬ ((i:Int)< (n:Int)):=of_decide_eq_false e4
   obtain rfl:i=n:=by omega
   have hT:trQ P=tlQ P i:=by unfold trQ;rw [ZcO P i g1 g2 hcut]
   rw [hT,← Zbg,hN]
   all_goals exact rfl
theorem ZgV (x y:RV) (hx:x.z≤1099511627776) (hy:y.z≤1099511627776):Spec Tryz.prog Tab 117 [pair x y] (rat (cn (((1:Int):Rat) / ((2:Int):Rat)*(x.q+y.q)))):=by
 refine Zd Tryz.func117 rfl rfl Tryz.ntmps117 rfl (by kernel_rfl) rfl rfl ?_
 refine Zh7 1 2 (by omega) (by omega) (by omega) (by omega) (by decide+kernel) fun q6 h6 z6=> ?_
 simp only [cn_z] at z6
 refine Zcj (x:=x) (y:=y) (by omega) (by omega) fun q14 h14 z14=> ?_
 simp only [cn_z] at z14
 refine ZaL (x:=cn q6) (y:=cn q14) (by simp only [cn_z];omega) (by simp only [cn_z];omega) fun q15 h15 z15=> ?_
 simp only [cn_z] at z15
 simp only [cn_q] at h15
 refine⟨by kernel_rfl,?_⟩
 refine Eq.trans (b:=rat (cn q15)) ?_ rfl
 have e:q15=((1:Int):Rat) / ((2:Int):Rat)*(x.q+y.q):=by rw [h15,h6,h14]
 rw [e]
def scQ (p:List Rat):List Rat:=p.map fun c=>c / absV (p.getLastD 0)
theorem Zev (p:List Rat):(scQ p).length=p.length:=by simp [scQ]
theorem ZnR {p:List Rat} {i:Nat} {c d:Rat} (h:p[i]? =some c) (g:p[p.length - 1]? =some d):(scQ p)[i]? =some (c / absV d):=by
 have hl:p.getLastD 0=d:=by rw [List.getLastD_eq_getLast?,List.getLast?_eq_getElem?,g];rfl
 unfold scQ;rw [List.getElem?_map,h,hl];rfl
theorem trC {p:List Rat} {n:Nat}:tlQ (p.map cn) n=p.take n:=by
 unfold tlQ
 rw [← List.map_take,List.map_map]
 exact(List.map_congr_left fun q _=>cn_q q).trans (List.map_id _)
def trP (p:List Rat):List Rat:=trQ (p.map cn)
theorem ZnI {p:List Rat} {n:Nat} (h:n≤p.length) (hz:∀ (j:Nat) (c:Rat),n≤j→p[j]? =some c→c=0) (hn:n=0∨∃ c:Rat,p[n - 1]? =some c∧c≠0):trP p=p.take n:=by
 have e:trN (p.map cn)=n:=ZcO (p.map cn) n (by rw [List.length_map];exact h)
  (fun j y hj hy=>by
   rw [List.getElem?_map] at hy
   obtain⟨c,hc,rfl⟩:=Option.map_eq_some_iff.1 hy
   rw [cn_q];exact hz j c hj hc)
  (hn.imp id fun ⟨c,hc,hq⟩=>⟨cn c,by rw [List.getElem?_map,hc];rfl,by rw [cn_q];exact hq⟩)
 unfold trP trQ
 rw [e,trC]
set_option maxHeartbeats 2000000 in
theorem ZnG (p:List Rat) (hp:p.length≤1048576∧∀ c,c∈p→qs c≤1099511627776):SpecT Tryz.prog Tab 113 [.val (.one (.row 1000 0))] 27 3 (List.map rdc p) 27 3 (List.map rdc (trP p)):=by
 have hL:(List.map rdc p).length=p.length:=List.length_map ..
 have hp1:=hp.1
 refine fn_T [] Tryz.func113 rfl rfl Tryz.ntmps113 rfl (by kernel_rfl) rfl rfl ?_
 refine⟨Nat,fun n=> [(0,.val (.one (.row 1000 0))),(3,int (n:Int))],
  fun n=> [(1000,.row 27 3 0 (List.map rdc p) true)],fun n=>n≤p.length∧∀ (j:Nat) (c:Rat),n≤j→p[j]? =some c→c=0,fun n=>n,p.length,?_,⟨Nat.le_refl _,fun j y hj hy=>by have:=(List.getElem?_eq_some_iff.1 hy).1;omega⟩,fun n hs=> ?_⟩
 ·constructor<;>(repeat' (first|exact rfl|exact True.intro|exact⟨_,_,rfl⟩|exact(by decide)|apply And.intro))
  all_goals first|exact congrArg (fun n:Int=>D.v (.int .i64 n)) (by omega)|exact congrArg (fun n:Int=>D.v (.int .i64 n)) (by rw [wrap64 _ (by omega) (by omega)];omega)|(simp;done)
 have g1:=hs.1
 have g2:=hs.2
 refine fork (fun e1=> ?_) (fun e1=> ?_)
 ·have f10:(n:Int) >0:=of_decide_eq_true e1
  refine k_at_own' (n - 1) (by first|rfl|omega|(rw [wrap64 _ (by omega) (by omega)];omega)|(rw [wrap64 _ (by omega) (by omega)];split<;>omega)) (by first|omega|(simp;omega)) ?_
  obtain⟨x15,hx15⟩:∃ vv,p[(n - 1)]? =some vv:=⟨_,List.getElem?_eq_getElem (by first|omega|exact Nat.mod_lt _ (by omega))⟩
  have hzx15:=hp.2 x15 (List.mem_of_getElem? hx15)
  refine Z0 [D.v (.bool (cn x15).s),D.v (.string (cn x15).a),D.v (.string (cn x15).d)] _ (Zj hx15) rfl rfl ?_
  refine Zdc (x:=cn x15) (by simp only [cn_z];omega) fun n16 h16=> ?_
  simp only [cn_q] at h16
  refine⟨fun e2=> ?_,fun e2=> ?_⟩
  ·have f18:x15=0:=(Zar h16).1 (ZaN e2)
   refine⟨n - 1,⟨by omega,fun j y hj hy=>by
    by_cases e:j=n - 1
    ·subst e;obtain rfl:=Option.some.inj (hx15.symm.trans hy);exact f18
    ·exact g2 j y (by omega) hy⟩,by simp only;omega,?_⟩
   constructor<;>(repeat' (first|exact rfl|exact True.intro|apply And.intro))
   all_goals first
    |exact congrArg (fun n:Int=>D.v (.int .i64 n)) (by rw [wrap64 _ (by omega) (by omega)];omega)
    |exact congrArg (fun n:Int=>D.v (.int .i64 n)) (by omega)
  ·have f18:¬ (x15=0):=fun hh=>ZaO e2 ((Zar h16).2 hh)
   refine⟨⟨by omega,rfl,(by show ((n:Int))*40≤_;omega),by omega⟩,?_⟩
   have hcut:n=0∨∃ c:Rat,p[n - 1]? =some c∧c≠0:= .inr ⟨x15,hx15,fun e=>f18 (by first|exact e|(rw [cn_q];exact e))⟩
   have hN:(p.take n).length=n:=by rw [List.length_take];omega
   have hfl:∀ i,i≤n→(flQ (p.take n) i).length=n:=fun i hi=>by rw [Zbf _ (by omega),hN]
   have hf0:=ZfY (p.take n) hN
   refine⟨Nat,fun i=> [(0,.val (.one (.row 1000 0))),(4,.val (.one (.row 22 0))),(24,int (n:Int)),(25,int (i:Int))],
    fun i=> [(22,.row 27 3 0 (flQ (p.take n) i) true),(1000,.row 27 3 0 (List.map rdc p) true)],fun i=>i≤n,fun i=>n - i,0,?_,Nat.zero_le _,fun i hs=> ?_⟩
   ·constructor<;>(repeat' (first|exact rfl|exact True.intro|exact⟨_,_,rfl⟩|exact(by decide)|apply And.intro))
    all_goals first
     |exact hf0
     |exact hf0.symm
     |exact congrArg (fun n:Int=>D.v (.int .i64 n)) (by rw [List.length_replicate,Int.toNat_natCast])
     |exact congrArg (fun n:Int=>D.v (.int .i64 n)) (by omega)
     |(simp;done)
   have hfi:=hfl i hs
   refine⟨fun e3=> ?_,fun e3=> ?_⟩
   ·have f26:(i:Int)< (n:Int):=of_decide_eq_true e3
    refine k_at_own' i (by first|rfl|omega|(rw [wrap64 _ (by omega) (by omega)];omega)|(rw [wrap64 _ (by omega) (by omega)];split<;>omega)) (by first|omega|(simp;omega)) ?_
    obtain⟨x33,hx33⟩:∃ vv,p[i]? =some vv:=⟨_,List.getElem?_eq_getElem (by first|omega|exact Nat.mod_lt _ (by omega))⟩
    have hzx33:=hp.2 x33 (List.mem_of_getElem? hx33)
    refine Z0 [D.v (.bool (cn x33).s),D.v (.string (cn x33).a),D.v (.string (cn x33).d)] _ (Zj hx33) rfl rfl ?_
    refine k_at_own' i (by first|rfl|omega|(rw [wrap64 _ (by omega) (by omega)];omega)|(rw [wrap64 _ (by omega) (by omega)];split<;>omega)) (by first|omega|(simp;omega)) ?_
    refine Z0 [D.v (.bool (cn x33).s),D.v (.string (cn x33).a),D.v (.string (cn x33).d)] _ (Zj hx33) rfl rfl ?_
    refine Zbz (x:=cn x33) (by simp only [cn_z];omega) fun q38 h38 z38=> ?_
    simp only [cn_z] at z38
    simp only [cn_q] at h38
    refine k_at_own' i (by first|rfl|omega|(rw [wrap64 _ (by omega) (by omega)];omega)|(rw [wrap64 _ (by omega) (by omega)];split<;>omega)) (by first|omega|(simp;omega)) ?_
    refine⟨by first|omega|(simp;omega),?_⟩
    refine⟨by kernel_rfl,?_⟩
    have e38:(flQ (p.take n) i).set i (rdc q38)=flQ (p.take n) (i+1):=by rw [h38];exact Zbe (by rw [List.getElem?_take_of_lt (by omega)];exact hx33)
    refine⟨i+1,by omega,by simp only;omega,?_⟩
    constructor<;>(repeat' (first|exact rfl|exact True.intro|apply And.intro))
    all_goals first
     |exact e38
     |exact e38.symm
     |exact congrArg (fun n:Int=>D.v (.int .i64 n)) (by rw [wrap64 _ (by omega) (by omega)];omega)
     |exact congrArg (fun n:Int=>D.v (.int .i64 n)) (by omega)
   ·have f26:¬ ((i:Int)< (n:Int)):=of_decide_eq_false e3
    obtain rfl:i=n:=by omega
    have hT:trP p=p.take i:=ZnI g1 g2 hcut
    rw [hT,← Zbg (p.take i),hN]
    all_goals exact rfl
 ·have f10:¬ ((n:Int) >0):=of_decide_eq_false e1
  refine⟨fun e=>absurd e (by decide),fun _=> ?_⟩
  refine⟨⟨by omega,rfl,(by show ((n:Int))*40≤_;omega),by omega⟩,?_⟩
  have hcut:n=0∨∃ c:Rat,p[n - 1]? =some c∧c≠0:= .inl (by omega)
  have hN:(p.take n).length=n:=by rw [List.length_take];omega
  have hfl:∀ i,i≤n→(flQ (p.take n) i).length=n:=fun i hi=>by rw [Zbf _ (by omega),hN]
  have hf0:=ZfY (p.take n) hN
  refine⟨Nat,fun i=> [(0,.val (.one (.row 1000 0))),(4,.val (.one (.row 22 0))),(24,int (n:Int)),(25,int (i:Int))],
   fun i=> [(22,.row 27 3 0 (flQ (p.take n) i) true),(1000,.row 27 3 0 (List.map rdc p) true)],fun i=>i≤n,fun i=>n - i,0,?_,Nat.zero_le _,fun i hs=> ?_⟩
  ·constructor<;>(repeat' (first|exact rfl|exact True.intro|exact⟨_,_,rfl⟩|exact(by decide)|apply And.intro))
   all_goals first
    |exact hf0
    |exact hf0.symm
    |exact congrArg (fun n:Int=>D.v (.int .i64 n)) (by rw [List.length_replicate,Int.toNat_natCast])
    |exact congrArg (fun n:Int=>D.v (.int .i64 n)) (by omega)
    |(simp;done)
  have hfi:=hfl i hs
  refine⟨fun e4=> ?_,fun e4=> ?_⟩
  ·have f26:(i:Int)< (n:Int):=of_decide_eq_true e4
   refine k_at_own' i (by first|rfl|omega|(rw [wrap64 _ (by omega) (by omega)];omega)|(rw [wrap64 _ (by omega) (by omega)];split<;>omega)) (by first|omega|(simp;omega)) ?_
   obtain⟨x33,hx33⟩:∃ vv,p[i]? =some vv:=⟨_,List.getElem?_eq_getElem (by first|omega|exact Nat.mod_lt _ (by omega))⟩
   have hzx33:=hp.2 x33 (List.mem_of_getElem? hx33)
   refine Z0 [D.v (.bool (cn x33).s),D.v (.string (cn x33).a),D.v (.string (cn x33).d)] _ (Zj hx33) rfl rfl ?_
   refine k_at_own' i (by first|rfl|omega|(rw [wrap64 _ (by omega) (by omega)];omega)|(rw [wrap64 _ (by omega) (by omega)];split<;>omega)) (by first|omega|(simp;omega)) ?_
   refine Z0 [D.v (.bool (cn x33).s),D.v (.string (cn x33).a),D.v (.string (cn x33).d)] _ (Zj hx33) rfl rfl ?_
   refine Zbz (x:=cn x33) (by simp only [cn_z];omega) fun q38 h38 z38=> ?_
   simp only [cn_z] at z38
   simp only [cn_q] at h38
   refine k_at_own' i (by first|rfl|omega|(rw [wrap64 _ (by omega) (by omega)];omega)|(rw [wrap64 _ (by omega) (by omega)];split<;>omega)) (by first|omega|(simp;omega)) ?_
   refine⟨by first|omega|(simp;omega),?_⟩
   refine⟨by kernel_rfl,?_⟩
   have e38:(flQ (p.take n) i).set i (rdc q38)=flQ (p.take n) (i+1):=by rw [h38];exact Zbe (by rw [List.getElem?_take_of_lt (by omega)];exact hx33)
   refine⟨i+1,by omega,by simp only;omega,?_⟩
   constructor<;>(repeat' (first|exact rfl|exact True.intro|apply And.intro))
   all_goals first
    |exact e38
    |exact e38.symm
    |exact congrArg (fun n:Int=>D.v (.int .i64 n)) (by rw [wrap64 _ (by omega) (by omega)];omega)
    |exact congrArg (fun n:Int=>D.v (.int .i64 n)) (by omega)
  ·have f26:¬ ((i:Int)< (n:Int)):=of_decide_eq_false e4
   obtain rfl:i=n:=by omega
   have hT:trP p=p.take i:=ZnI g1 g2 hcut
   rw [hT,← Zbg (p.take i),hN]
   all_goals exact rfl
def drQ (p:List Rat) (i:Nat):Rat:=(((i:Int)+1:Int):Rat)*(p[i+1]?).getD 0
def drF (p:List Rat) (n:Nat):List Rat:=(List.range n).map (drQ p)
theorem Zg6 (p:List Rat) (n:Nat):(drF p n).length=n:=by simp [drF]
theorem Zno {α:Type} (g:Rat→α) (p:List Rat) (i:Nat):List.map g (drF p (i+1))=List.map g (drF p i)++ [g (drQ p i)]:=by
 simp [drF,List.range_succ]
theorem ZqY {p:List Rat} {i:Nat} {c:Rat} (h:p[i+1]? =some c):drQ p i=(((i:Int)+1:Int):Rat)*c:=by unfold drQ;rw [h];rfl
theorem ZrC {p : List Rat} {B n : Nat} (hp : ∀ c, c ∈ p → qs c ≤ B) (hn : n ≤ 1048576) : ∀ c, c ∈ drF p n → qs c ≤ B + 16 := by
  intro c hc
  obtain ⟨i, hi, rfl⟩ := List.mem_map.1 hc
  have hi := List.mem_range.1 hi
  have h1 := ZT (((i : Int) + 1 : Int) : Rat) ((p[i + 1]?).getD 0)
  have h2 : qs (((i : Int) + 1 : Int) : Rat) ≤ 8 := Zat (by omega) (by omega)
  have h3 : qs ((p[i + 1]?).getD 0) ≤ B + 8 := by
    cases e : p[i + 1]? with
    | none => have : qs (0 : Rat) ≤ 8 := by decide +kernel
              show qs (0 : Rat) ≤ _; omega
    | some y => have := hp y (List.mem_of_getElem? e); show qs y ≤ _; omega
  unfold drQ; omega
end
end Go.Proofs.YtiekmbmgpachpaaGreatDoor.eng
namespace Go.Proofs.YtiekmbmgpachpaaGreatDoor.eng
open Go.RowKit num mem seg q held ratA ratB ratC ratD ratE vars ratF trq
section
variable {K : AV → Prop}
def chD (p:List Rat):List D:= [D.list (List.map rdc p)]
def evP (p:List Rat) (x:Rat):Rat:=evQ (p.map cn) x
theorem ZoI (p:List Rat):List.map rdc p=List.map rd (p.map cn):=by rw [List.map_map];rfl
def chZ (C:List (List Rat)):Prop:=C.length≤1048576∧∀ p,p∈C→p.length≤1048576∧∀ c,c∈p→qs c≤1048576
theorem Zf9 {p:List Rat} (h:p.length≤1048576∧∀ c,c∈p→qs c≤1048576):(p.map cn).length≤1048576∧∀ y,y∈p.map cn→y.z≤1048576:=
 ⟨by rw [List.length_map];exact h.1,fun y hy=>by obtain⟨c,hc,rfl⟩:=List.mem_map.1 hy;rw [cn_z];exact h.2 c hc⟩
theorem Zib {p:List Rat} {x:RV} (hp:p.length≤1048576∧∀ c,c∈p→qs c≤1048576) (hx:x.z≤1048576) (k:∀ q,q=evP p x.q→(cn q).z≤2199027449864→K (rat (cn q))):Ask 135 [.val (.one (.d (.list (List.map rdc p)))),rat x] K:=by
 rw [ZoI]
 refine Zo8 (Zf9 hp) hx fun q hq=>k q hq ?_
 rw [cn_z,hq]
 have h1:=Zpk (B:=1048576) hx (p.map cn) (Zf9 hp).2
 have h2:=Zk8 (n:=(p.map cn).length) (Zf9 hp).1
 omega
def chS (C:List (List Rat)) (x:Rat):Nat→Int×Int
 |0=>(0,0)
 |i+1=>
  let s:=sgnQ (evP ((C[i]?).getD []) x)
  (if s*(chS C x i).2< 0 then (chS C x i).1+1 else (chS C x i).1,if s=0 then (chS C x i).2 else s)
def chN (C:List (List Rat)) (x:Rat):Int:=(chS C x C.length).1
theorem Zp0 (q:Rat):-1≤sgnQ q∧sgnQ q≤1:=by unfold sgnQ;split<;>(try split)<;>omega
theorem ZpA (C:List (List Rat)) (x:Rat):∀ i,(0≤(chS C x i).1∧(chS C x i).1≤i)∧-1≤(chS C x i).2∧(chS C x i).2≤1
 |0=>by unfold chS;exact⟨⟨by decide,by decide⟩,by decide,by decide⟩
 |i+1=>by
  have ih:=ZpA C x i
  have hs:=Zp0 (evP ((C[i]?).getD []) x)
  unfold chS
  simp only
  refine⟨?_,?_⟩
  ·split<;>omega
  ·split<;>omega
theorem Zrs {a b:Int} (h1:-1≤a∧a≤1) (h2:-1≤b∧b≤1):-1≤a*b∧a*b≤1:=by
 rcases (show a=-1∨a=0∨a=1 by omega) with rfl|rfl|rfl<;>rcases (show b=-1∨b=0∨b=1 by omega) with rfl|rfl|rfl<;>decide
theorem ZiB {C:List (List Rat)} {x:Rat} {i:Nat} {p:List Rat} {s:Int} (h:C[i]? =some p) (hs:s=sgnQ (evP p x)):
  (chS C x (i+1)).1=(if s*(chS C x i).2< 0 then (chS C x i).1+1 else (chS C x i).1)∧(chS C x (i+1)).2=if s=0 then (chS C x i).2 else s:=by
 subst hs
 have e:(C[i]?).getD []=p:=by rw [h];rfl
 exact⟨by rw [← e];rfl,by rw [← e];rfl⟩
set_option maxHeartbeats 2000000 in
theorem Zgb (C:List (List Rat)) (x:RV) (hC:chZ C) (hx:x.z≤1048576):Spec Tryz.prog Tab 134 [.val (.one (.d (.list (List.map chD C)))),rat x] (int (chN C x.q)):=by
 have hL:(List.map chD C).length=C.length:=List.length_map ..
 have hC1:=hC.1
 refine Zd Tryz.func134 rfl rfl Tryz.ntmps134 rfl (by kernel_rfl) rfl rfl ?_
 refine⟨Nat,fun i=> [(3,.val (.one (.ptr 3 0))),(5,int ((chS C x.q i).1)),(6,int ((chS C x.q i).2)),(10,.val (.one (.d (.list (List.map chD C))))),(11,int ((List.map chD C).length:Int)),(12,int (i:Int))],
  fun i=> [(3,.var 27 [.d (.v (.bool x.s)),.d (.v (.string x.a)),.d (.v (.string x.d))])],fun i=>i≤C.length,fun i=>C.length - i,0,?_,Nat.zero_le _,fun i hs=> ?_⟩
 ·constructor<;>(repeat' (first|exact rfl|exact True.intro|exact⟨_,_,rfl⟩|exact(by decide)|apply And.intro))
  all_goals first|exact congrArg (fun n:Int=>D.v (.int .i64 n)) (by omega)|exact congrArg (fun n:Int=>D.v (.int .i64 n)) (by rw [wrap64 _ (by omega) (by omega)];omega)|(simp;done)
 have hr:=ZpA C x.q i
 have hr1:=hr.1
 have hr2:=hr.2
 refine⟨fun e1=> ?_,fun e1=> ?_⟩
 ·have f13:(i:Int)< ((List.map chD C).length:Int):=of_decide_eq_true e1
  obtain⟨x14,hx14⟩:∃ vv,C[i]? =some vv:=⟨_,List.getElem?_eq_getElem (by first|omega|exact Nat.mod_lt _ (by omega))⟩
  have hzx14:=hC.2 x14 (List.mem_of_getElem? hx14)
  refine k_ix i [D.list (List.map rdc x14)] (by first|rfl|omega|(rw [wrap64 _ (by omega) (by omega)];omega)|(rw [wrap64 _ (by omega) (by omega)];split<;>omega)) (Zj hx14) rfl ?_
  refine Zib (p:=x14) (x:=x) hzx14 hx fun q18 h18 z18=> ?_
  simp only [cn_z] at z18
  refine Zdc (x:=cn q18) (by simp only [cn_z];omega) fun n19 h19=> ?_
  simp only [cn_q] at h19
  have hs19:-1≤n19∧n19≤1:=by rw [h19];exact Zp0 _
  have hm22:=Zrs hs19 hr2
  have e22:IntKind.i64.wrap (n19*(chS C x.q i).2)=n19*(chS C x.q i).2:=wrap64 _ (by omega) (by omega)
  refine⟨fun e2=> ?_,fun e2=> ?_⟩
  ·have f23:IntKind.i64.wrap (n19*((chS C x.q i).2))< 0:=of_decide_eq_true e2
   rw [e22] at f23
   refine⟨fun e3=> ?_,fun e3=> ?_⟩
   ·have f27:¬ q18=0:=fun hh=>Zhe e3 ((Zar h19).2 hh)
    have hat:=ZiB hx14 (x:=x.q) (s:=n19) (by rw [h19,h18])
    have ha1:=hat.1
    have ha2:=hat.2
    rw [if_pos f23] at ha1
    rw [if_neg (fun h=>f27 ((Zar h19).1 h))] at ha2
    refine⟨i+1,by omega,by simp only;omega,?_⟩
    constructor<;>(repeat' (first|exact rfl|exact True.intro|apply And.intro))
    all_goals first
     |exact congrArg (fun n:Int=>D.v (.int .i64 n)) (by rw [ha1,wrap64 _ (by omega) (by omega)])
     |exact congrArg (fun n:Int=>D.v (.int .i64 n)) ha1.symm
     |exact congrArg (fun n:Int=>D.v (.int .i64 n)) ha2.symm
     |exact congrArg (fun n:Int=>D.v (.int .i64 n)) (by rw [wrap64 _ (by omega) (by omega)];omega)
     |exact congrArg (fun n:Int=>D.v (.int .i64 n)) (by omega)
   ·have f27:¬ (¬ q18=0):=fun hh=>hh ((Zar h19).1 (Zhf e3))
    have hat:=ZiB hx14 (x:=x.q) (s:=n19) (by rw [h19,h18])
    have ha1:=hat.1
    have ha2:=hat.2
    rw [if_pos f23] at ha1
    rw [if_pos ((Zar h19).2 (Classical.not_not.1 f27))] at ha2
    refine⟨i+1,by omega,by simp only;omega,?_⟩
    constructor<;>(repeat' (first|exact rfl|exact True.intro|apply And.intro))
    all_goals first
     |exact congrArg (fun n:Int=>D.v (.int .i64 n)) (by rw [ha1,wrap64 _ (by omega) (by omega)])
     |exact congrArg (fun n:Int=>D.v (.int .i64 n)) ha1.symm
     |exact congrArg (fun n:Int=>D.v (.int .i64 n)) ha2.symm
     |exact congrArg (fun n:Int=>D.v (.int .i64 n)) (by rw [wrap64 _ (by omega) (by omega)];omega)
     |exact congrArg (fun n:Int=>D.v (.int .i64 n)) (by omega)
  ·have f23:¬ (IntKind.i64.wrap (n19*((chS C x.q i).2))< 0):=of_decide_eq_false e2
   rw [e22] at f23
   refine⟨fun e4=> ?_,fun e4=> ?_⟩
   ·have f27:¬ q18=0:=fun hh=>Zhe e4 ((Zar h19).2 hh)
    have hat:=ZiB hx14 (x:=x.q) (s:=n19) (by rw [h19,h18])
    have ha1:=hat.1
    have ha2:=hat.2
    rw [if_neg f23] at ha1
    rw [if_neg (fun h=>f27 ((Zar h19).1 h))] at ha2
    refine⟨i+1,by omega,by simp only;omega,?_⟩
    constructor<;>(repeat' (first|exact rfl|exact True.intro|apply And.intro))
    all_goals first
     |exact congrArg (fun n:Int=>D.v (.int .i64 n)) (by rw [ha1,wrap64 _ (by omega) (by omega)])
     |exact congrArg (fun n:Int=>D.v (.int .i64 n)) ha1.symm
     |exact congrArg (fun n:Int=>D.v (.int .i64 n)) ha2.symm
     |exact congrArg (fun n:Int=>D.v (.int .i64 n)) (by rw [wrap64 _ (by omega) (by omega)];omega)
     |exact congrArg (fun n:Int=>D.v (.int .i64 n)) (by omega)
   ·have f27:¬ (¬ q18=0):=fun hh=>hh ((Zar h19).1 (Zhf e4))
    have hat:=ZiB hx14 (x:=x.q) (s:=n19) (by rw [h19,h18])
    have ha1:=hat.1
    have ha2:=hat.2
    rw [if_neg f23] at ha1
    rw [if_pos ((Zar h19).2 (Classical.not_not.1 f27))] at ha2
    refine⟨i+1,by omega,by simp only;omega,?_⟩
    constructor<;>(repeat' (first|exact rfl|exact True.intro|apply And.intro))
    all_goals first
     |exact congrArg (fun n:Int=>D.v (.int .i64 n)) (by rw [ha1,wrap64 _ (by omega) (by omega)])
     |exact congrArg (fun n:Int=>D.v (.int .i64 n)) ha1.symm
     |exact congrArg (fun n:Int=>D.v (.int .i64 n)) ha2.symm
     |exact congrArg (fun n:Int=>D.v (.int .i64 n)) (by rw [wrap64 _ (by omega) (by omega)];omega)
     |exact congrArg (fun n:Int=>D.v (.int .i64 n)) (by omega)
 ·have f13:¬ ((i:Int)< ((List.map chD C).length:Int)):=of_decide_eq_false e1
  refine Eq.trans (b:=int ((chS C x.q i).1)) ?_ rfl
  obtain rfl:i=C.length:=by omega
  rfl
theorem ZfT {C:List (List Rat)} {x:RV} (hC:chZ C) (hx:x.z≤1048576) (k:K (int (chN C x.q))):Ask 134 [.val (.one (.d (.list (List.map chD C)))),rat x] K:=use (Zgb C x hC hx) rfl k
theorem ZiG (C:List (List Rat)) (x:RV) (hC:chZ C) (hx:x.z≤1048576) (hn:0< C.length):Spec Tryz.prog Tab 118 [.val (.one (.d (.list (List.map chD C)))),rat x] (bool (decide (evP ((C[0]?).getD []) x.q=0))):=by
 have hL:(List.map chD C).length=C.length:=List.length_map ..
 refine Zd Tryz.func118 rfl rfl Tryz.ntmps118 rfl (by kernel_rfl) rfl rfl ?_
 obtain⟨x6,hx6⟩:∃ vv,C[0]? =some vv:=⟨_,List.getElem?_eq_getElem (by first|omega|exact Nat.mod_lt _ (by omega))⟩
 have hzx6:=hC.2 x6 (List.mem_of_getElem? hx6)
 refine k_ix 0 [D.list (List.map rdc x6)] (by first|rfl|omega|(rw [wrap64 _ (by omega) (by omega)];omega)|(rw [wrap64 _ (by omega) (by omega)];split<;>omega)) (Zj hx6) rfl ?_
 refine Zib (p:=x6) (x:=x) hzx6 hx fun q9 h9 z9=> ?_
 simp only [cn_z] at z9
 refine Zdc (x:=cn q9) (by simp only [cn_z];omega) fun n10 h10=> ?_
 simp only [cn_q] at h10
 refine⟨by kernel_rfl,?_⟩
 refine Eq.trans (b:=bool (n10==0)) ?_ rfl
 have e:(n10==0)=decide (evP ((C[0]?).getD []) x.q=0):=by
  rw [hx6]
  show (n10==0)=decide (evP x6 x.q=0)
  rw [← h9]
  rw [Bool.eq_iff_iff,beq_iff_eq,decide_eq_true_iff]
  exact Zar h10
 rw [e]
theorem Zlg {C:List (List Rat)} {x:RV} (hC:chZ C) (hx:x.z≤1048576) (hn:0< C.length) (k:K (bool (decide (evP ((C[0]?).getD []) x.q=0)))):Ask 118 [.val (.one (.d (.list (List.map chD C)))),rat x] K:=use (ZiG C x hC hx hn) rfl k
theorem Zq6 (C:List (List Rat)) (x:Rat):0≤chN C x∧chN C x≤C.length:=(ZpA C x C.length).1
def ctN (C:List (List Rat)) (x y:Rat):Int:=chN C x - chN C y+if evP ((C[0]?).getD []) x=0 then 1 else 0
theorem ZrE {C:List (List Rat)} {x y:Rat} (h:evP ((C[0]?).getD []) x=0):ctN C x y=chN C x - chN C y+1:=by unfold ctN;rw [if_pos h]
theorem ZrF {C:List (List Rat)} {x y:Rat} (h:¬ evP ((C[0]?).getD []) x=0):ctN C x y=chN C x - chN C y:=by unfold ctN;rw [if_neg h,Int.add_zero]
theorem ZjD (C:List (List Rat)) (x y:RV) (hC:chZ C) (hx:x.z≤1048576) (hy:y.z≤1048576) (hn:0< C.length):Spec Tryz.prog Tab 116 [.val (.one (.d (.list (List.map chD C)))),pair x y] (int (ctN C x.q y.q)):=by
 have r1:=Zq6 C x.q
 have r2:=Zq6 C y.q
 have hC1:=hC.1
 have e14:IntKind.i64.wrap (chN C x.q - chN C y.q)=chN C x.q - chN C y.q:=wrap64 _ (by omega) (by omega)
 refine Zd Tryz.func116 rfl rfl Tryz.ntmps116 rfl (by kernel_rfl) rfl rfl ?_
 refine ZfT (C:=C) (x:=x) hC (by omega) ?_
 refine ZfT (C:=C) (x:=y) hC (by omega) ?_
 refine⟨by kernel_rfl,?_⟩
 refine Zlg (C:=C) (x:=x) hC (by omega) hn ?_
 refine⟨fun e1=> ?_,fun e1=> ?_⟩
 ·have f18:evP ((C[0]?).getD []) x.q=0:=of_decide_eq_true e1
  refine Eq.trans (b:=int (IntKind.i64.wrap ((IntKind.i64.wrap ((chN C x.q) - (chN C y.q)))+1))) ?_ rfl
  rw [ZrE f18,e14,wrap64 (chN C x.q - chN C y.q+1) (by omega) (by omega)]
  all_goals rfl
 ·have f18:¬ (evP ((C[0]?).getD []) x.q=0):=of_decide_eq_false e1
  refine Eq.trans (b:=int (IntKind.i64.wrap ((chN C x.q) - (chN C y.q)))) ?_ rfl
  rw [ZrF f18,e14]
  all_goals rfl
theorem Zo7 {C:List (List Rat)} {x y:RV} (hC:chZ C) (hx:x.z≤1048576) (hy:y.z≤1048576) (hn:0< C.length) (k:K (int (ctN C x.q y.q))):Ask 116 [.val (.one (.d (.list (List.map chD C)))),pair x y] K:=use (ZjD C x y hC hx hy hn) rfl k
def hfH:Rat:=((1:Int):Rat) / ((2:Int):Rat)
def mdQ (x y:Rat):Rat:=hfH*(x+y)
open Classical in
noncomputable def hvS (C:List (List Rat)) (x y:RV):RV×RV:=if evP ((C[0]?).getD []) (mdQ x.q y.q)=0 then (cn (mdQ x.q y.q),cn (mdQ x.q y.q)) else if ctN C x.q (mdQ x.q y.q)=1 then (x,cn (mdQ x.q y.q)) else (cn (mdQ x.q y.q),y)
theorem ZrA {C:List (List Rat)} {x y:RV} (h:evP ((C[0]?).getD []) (mdQ x.q y.q)=0):hvS C x y=(cn (mdQ x.q y.q),cn (mdQ x.q y.q)):=if_pos h
theorem ZqP {C:List (List Rat)} {x y:RV} (h:¬ evP ((C[0]?).getD []) (mdQ x.q y.q)=0) (g:ctN C x.q (mdQ x.q y.q)=1):hvS C x y=(x,cn (mdQ x.q y.q)):=(if_neg h).trans (if_pos g)
theorem ZqO {C:List (List Rat)} {x y:RV} (h:¬ evP ((C[0]?).getD []) (mdQ x.q y.q)=0) (g:¬ ctN C x.q (mdQ x.q y.q)=1):hvS C x y=(cn (mdQ x.q y.q),y):=(if_neg h).trans (if_neg g)
theorem Zh6 {x y:RV} (hx:x.z≤1099511627776) (hy:y.z≤1099511627776) (k:∀ q,q=mdQ x.q y.q→(cn q).z≤x.z+y.z+40→K (rat (cn q))):Ask 117 [pair x y] K:=
 use (ZgV x y hx hy) rfl (k _ rfl (by
  have h1:qs hfH≤16:=by decide+kernel
  have h2:=ZT hfH (x.q+y.q)
  have h3:=Z8 x.q y.q
  have:=x.z1
  have:=y.z1
  rw [cn_z]
  show qs (hfH*(x.q+y.q))≤_
  omega))
theorem Zlf {C:List (List Rat)} {x:RV} {r:Rat} (hC:chZ C) (hx:x.z≤1048576) (hn:0< C.length) (e:x.q=r) (k:K (bool (decide (evP ((C[0]?).getD []) r=0)))):Ask 118 [.val (.one (.d (.list (List.map chD C)))),rat x] K:=by
 subst e;exact Zlg hC hx hn k
theorem Zia {C:List (List Rat)} {x y:RV} {r s:Rat} (hC:chZ C) (hx:x.z≤1048576) (hy:y.z≤1048576) (hn:0< C.length) (e1:x.q=r) (e2:y.q=s) (k:K (int (ctN C r s))):Ask 116 [.val (.one (.d (.list (List.map chD C)))),pair x y] K:=by
 subst e1 e2;exact Zo7 hC hx hy hn k
theorem Zqt {x:RV} {r:Rat} (hx:x.z≤4398046511104) (e:x.q=r) (k:K (pair (cn r) (cn r))):Ask 11 [rat x] K:=by
 subst e;exact use (ZhD x hx) rfl k
set_option maxHeartbeats 1000000 in
theorem Zjp (C:List (List Rat)) (x y:RV) (hC:chZ C) (hx:x.z≤400000) (hy:y.z≤400000) (hn:0< C.length):Spec Tryz.prog Tab 79 [.val (.one (.d (.list (List.map chD C)))),pair x y] (pair ((hvS C x y).1) ((hvS C x y).2)):=by
 refine Zd Tryz.func79 rfl rfl Tryz.ntmps79 rfl (by kernel_rfl) rfl rfl ?_
 refine Zh6 (x:=x) (y:=y) (by omega) (by omega) fun q8 h8 z8=> ?_
 simp only [cn_z] at z8
 subst h8
 refine Zlf (C:=C) (x:=cn (mdQ x.q y.q)) (r:=(mdQ x.q y.q)) hC (by simp only [cn_z];omega) hn (cn_q _) ?_
 refine⟨fun e1=> ?_,fun e1=> ?_⟩
 ·have f11:evP ((C[0]?).getD []) (mdQ x.q y.q)=0:=of_decide_eq_true e1
  refine Zqt (x:=cn (mdQ x.q y.q)) (r:=(mdQ x.q y.q)) (by simp only [cn_z];omega) (cn_q _) ?_
  refine Eq.trans (b:=pair (cn (mdQ x.q y.q)) (cn (mdQ x.q y.q))) ?_ rfl
  rw [ZrA f11]
  all_goals rfl
 ·have f11:¬ (evP ((C[0]?).getD []) (mdQ x.q y.q)=0):=of_decide_eq_false e1
  refine Zia (C:=C) (x:=x) (y:=cn (mdQ x.q y.q)) (r:=x.q) (s:=(mdQ x.q y.q)) hC (by omega) (by simp only [cn_z];omega) hn rfl (cn_q _) ?_
  refine⟨fun e2=> ?_,fun e2=> ?_⟩
  ·have f21:ctN C x.q (mdQ x.q y.q)=1:=ZaN e2
   refine Eq.trans (b:=pair x (cn (mdQ x.q y.q))) ?_ rfl
   rw [ZqP f11 f21]
   all_goals rfl
  ·have f21:¬ (ctN C x.q (mdQ x.q y.q)=1):=ZaO e2
   refine Eq.trans (b:=pair (cn (mdQ x.q y.q)) y) ?_ rfl
   rw [ZqO f11 f21]
   all_goals rfl
end
end Go.Proofs.YtiekmbmgpachpaaGreatDoor.eng
namespace Go.Proofs.YtiekmbmgpachpaaGreatDoor.eng
open Go.RowKit num mem seg q held ratA ratB ratC ratD ratE vars ratF trq
section
variable {K : AV → Prop}
def lsQ (p:List Rat):Rat:=(p[p.length - 1]?).getD 0
theorem ZhY {p:List Rat} {c:Rat} (h:p[p.length - 1]? =some c):lsQ p=c:=by unfold lsQ;rw [h];rfl
def sbE (r q:List Rat) (k:Nat) (c:Rat) (i j:Nat):Rat:=if k≤j∧j< k+i then (r[j]?).getD 0 - c*(q[j - k]?).getD 0 else (r[j]?).getD 0
def sbF (r q:List Rat) (k:Nat) (c:Rat) (i:Nat):List Rat:=(List.range r.length).map (sbE r q k c i)
theorem ZaE (r q:List Rat) (k:Nat) (c:Rat) (i:Nat):(sbF r q k c i).length=r.length:=by simp [sbF]
theorem ZdT {r q:List Rat} {k:Nat} {c:Rat} {i j:Nat} (h:j< r.length):(sbF r q k c i)[j]? =some (sbE r q k c i j):=by simp [sbF,h]
theorem Zrn (r q:List Rat) (k:Nat) (c:Rat):sbF r q k c 0=r:=by
 apply List.ext_getElem?
 intro j
 by_cases h:j< r.length
 ·rw [ZdT h,List.getElem?_eq_getElem h]
  unfold sbE
  rw [if_neg (by omega),List.getElem?_eq_getElem h];rfl
 ·rw [List.getElem?_eq_none (by rw [ZaE];omega),List.getElem?_eq_none (by omega)]
theorem ZoD {r q:List Rat} {k:Nat} {c x y:Rat} {i:Nat} (h:(sbF r q k c i)[k+i]? =some x) (g:q[i]? =some y):(sbF r q k c i).set (k+i) (x - c*y)=sbF r q k c (i+1):=by
 have hi:k+i< r.length:=by have:=(List.getElem?_eq_some_iff.1 h).1;rwa [ZaE] at this
 have hx:x=(r[k+i]?).getD 0:=by
  have:=(ZdT (q:=q) (k:=k) (c:=c) (i:=i) hi).symm.trans h
  rw [← Option.some.inj this]
  unfold sbE;rw [if_neg (by omega)]
 apply List.ext_getElem?
 intro j
 by_cases e:j=k+i
 ·subst e
  rw [List.getElem?_set_self (by rw [ZaE];exact hi),ZdT hi]
  unfold sbE
  rw [if_pos (by omega),hx,show k+i - k=i by omega,g];rfl
 ·rw [List.getElem?_set_ne (by omega)]
  by_cases hj:j< r.length
  ·rw [ZdT hj,ZdT hj]
   unfold sbE
   by_cases u:k≤j∧j< k+i
   ·rw [if_pos u,if_pos (by omega)]
   ·rw [if_neg u,if_neg (by omega)]
  ·rw [List.getElem?_eq_none (by rw [ZaE];omega),List.getElem?_eq_none (by rw [ZaE];omega)]
def dvT (q:List Rat) (s:List Rat×List Rat):List Rat×List Rat:=
 if s.2.length< q.length then s else (s.1.set (s.2.length - q.length) (lsQ s.2 / lsQ q),trP (sbF s.2 q (s.2.length - q.length) (lsQ s.2 / lsQ q) q.length))
def dvS (p q:List Rat):Nat→List Rat×List Rat
 |0=>(List.replicate ((trP p).length+1 - q.length) 0,trP p)
 |t+1=>dvT q (dvS p q t)
def dvF (p q:List Rat):List Rat×List Rat:=dvS p q (p.length+1)
theorem Zir {p q:List Rat} {t:Nat} (h:¬ (dvS p q t).2.length< q.length):dvS p q (t+1)=((dvS p q t).1.set ((dvS p q t).2.length - q.length) (lsQ (dvS p q t).2 / lsQ q),trP (sbF (dvS p q t).2 q ((dvS p q t).2.length - q.length) (lsQ (dvS p q t).2 / lsQ q) q.length)):=if_neg h
theorem Zcm {p q : List Rat} {t : Nat} (h : (dvS p q t).2.length < q.length) : ∀ n, t ≤ n → dvS p q n = dvS p q t := by
  intro n
  induction n with
  | zero => intro hn; obtain rfl : t = 0 := by omega
            rfl
  | succ n ih =>
    intro hn
    by_cases e : t = n + 1
    · rw [e]
    · have := ih (by omega)
      show dvT q (dvS p q n) = _
      rw [this]; exact if_pos h
theorem ZnJ:∀ (P:List RV) (y:RV),P[P.length - 1]? =some y→y.q=0→trN P< P.length
 | [],y,h,_=>by simp at h
 |a :: l,y,h,hy=>by
  cases l with
  |nil=>
   obtain rfl:a=y:=by simpa using h
   unfold trN
   rw [if_pos (show trN []=0 from rfl),if_pos hy];exact Nat.zero_lt_one
  |cons b m=>
   have ih:=ZnJ (b :: m) y (by simpa using h) hy
   unfold trN
   split
   ·split<;>simp
   ·rw [List.length_cons];omega
theorem Zgi (p:List Rat):(trP p).length=trN (p.map cn):=by
 unfold trP trQ
 exact ZcQ (ZjY _)
theorem ZpQ {p:List Rat} (h:p[p.length - 1]? =some 0):(trP p).length< p.length:=by
 rw [Zgi]
 have:=ZnJ (p.map cn) (cn 0) (by rw [List.length_map,List.getElem?_map,h];rfl) (cn_q 0)
 rwa [List.length_map] at this
theorem Ze6 (p:List Rat):(trP p).length≤p.length:=by
 rw [Zgi]
 have:=ZjY (p.map cn)
 rwa [List.length_map] at this
theorem Znm {p q:List Rat} {t:Nat} (hq:0< q.length) (h0:lsQ q≠0) (h:¬ (dvS p q t).2.length< q.length):(dvS p q (t+1)).2.length< (dvS p q t).2.length:=by
 rw [Zir h]
 show (trP (sbF _ _ _ _ _)).length< _
 generalize (dvS p q t).2=r at h ⊢
 have hr:r.length - 1< r.length:=by omega
 have hl:(sbF r q (r.length - q.length) (lsQ r / lsQ q) q.length)[(sbF r q (r.length - q.length) (lsQ r / lsQ q) q.length).length - 1]? =some 0:=by
  rw [ZaE,ZdT hr]
  unfold sbE
  rw [if_pos (by omega),show r.length - 1 - (r.length - q.length)=q.length - 1 by omega]
  have e1:(r[r.length - 1]?).getD 0=lsQ r:=rfl
  have e2:(q[q.length - 1]?).getD 0=lsQ q:=rfl
  rw [e1,e2]
  refine congrArg some ?_
  grind
 have:=ZpQ hl
 rwa [ZaE] at this
theorem Zok {p q:List Rat} (hq:0< q.length) (h0:lsQ q≠0):∀ t,(dvS p q t).2.length≤(trP p).length
 |0=>Nat.le_refl _
 |t+1=>by
  have ih:=Zok hq h0 (p:=p) t
  by_cases h:(dvS p q t).2.length< q.length
  ·rw [Zcm h (t+1) (by omega)];exact ih
  ·have:=Znm hq h0 h;omega
theorem ZqV (p q:List Rat):∀ t,(dvS p q t).1.length=(trP p).length+1 - q.length
 |0=>List.length_replicate
 |t+1=>by
  have ih:=ZqV p q t
  by_cases h:(dvS p q t).2.length< q.length
  ·rw [Zcm h (t+1) (by omega)];exact ih
  ·rw [Zir h];show (List.set _ _ _).length=_;rw [List.length_set];exact ih
theorem ZpO (p:List Rat) (hp:p.length≤1048576∧∀ c,c∈p→qs c≤1048576):SpecR Tryz.prog Tab 113 [.val (.one (.d (.list (List.map rdc p))))] 27 3 (List.map rdc (trP p)):=by
 rw [ZoI p];exact Zgl (p.map cn) (Zf9 hp)
theorem Zp3 {r q : List Rat} {k : Nat} {c : Rat} {i B : Nat} (hr : ∀ x, x ∈ r → qs x ≤ B) (hq : ∀ x, x ∈ q → qs x ≤ B) (hc : qs c ≤ 3 * B + 100) : ∀ x, x ∈ sbF r q k c i → qs x ≤ 6 * B + 400 := by
  have hd : ∀ (l : List Rat) (j : Nat), (∀ x, x ∈ l → qs x ≤ B) → qs ((l[j]?).getD 0) ≤ B + 8 := by
    intro l j hl
    cases e : l[j]? with
    | none => have : qs (0 : Rat) ≤ 8 := by decide +kernel
              show qs (0 : Rat) ≤ _; omega
    | some y => have := hl y (List.mem_of_getElem? e); show qs y ≤ _; omega
  intro x hx
  obtain ⟨j, _, rfl⟩ := List.mem_map.1 hx
  have h1 := hd r j hr
  have h2 := hd q (j - k) hq
  have h3 := ZT c ((q[j - k]?).getD 0)
  have h4 := Zby ((r[j]?).getD 0) (c * (q[j - k]?).getD 0)
  unfold sbE
  split <;> omega
theorem ZqS (m:Nat):flQ (List.replicate m 0) m=List.map rdc (List.replicate m 0):=by
 have:=Zbg (List.replicate m (0:Rat))
 rwa [List.length_replicate] at this
set_option maxHeartbeats 8000000 in
theorem ZbM (p q:List Rat) (hp:p.length≤1048576∧∀ c,c∈p→qs c≤1048576) (hq:q.length≤1048576∧∀ c,c∈q→qs c≤1048576) (hq0:0< q.length) (h0:lsQ q≠0) (hB:∀ t,(∀ c,c∈(dvS p q t).1→qs c≤1048576)∧∀ c,c∈(dvS p q t).2→qs c≤1048576):Spec Tryz.prog Tab 133 [.val (.one (.d (.list (List.map rdc p)))),.val (.one (.d (.list (List.map rdc q))))] (.tup [.one (.d (.list (List.map rdc ((dvF p q).1)))),.one (.d (.list (List.map rdc ((dvF p q).2))))]):=by
 have hLp:(List.map rdc (trP p)).length=(trP p).length:=List.length_map ..
 have hLq:(List.map rdc q).length=q.length:=List.length_map ..
 have hp1:=hp.1
 have hq1:=hq.1
 have htp:=Ze6 p
 have em:(if IntKind.i64.wrap ((IntKind.i64.wrap (((List.map rdc (trP p)).length:Int) - ((List.map rdc q).length:Int)))+1) >0 then IntKind.i64.wrap ((IntKind.i64.wrap (((List.map rdc (trP p)).length:Int) - ((List.map rdc q).length:Int)))+1) else 0)=((((trP p).length+1 - q.length):Nat):Int):=by
  rw [hLp,hLq,wrap64 (((trP p).length:Int) - (q.length:Int)) (by omega) (by omega),wrap64 (((trP p).length:Int) - (q.length:Int)+1) (by omega) (by omega)]
  by_cases h:((trP p).length:Int) - (q.length:Int)+1 >0
  ·rw [if_pos h];omega
  ·rw [if_neg h];omega
 refine Zcw [86] Tryz.func133 rfl rfl Tryz.ntmps133 rfl (by kernel_rfl) rfl rfl ?_
 refine useN (ZpO p hp) ?_
 refine⟨⟨by rw [em];omega,rfl,(by show (if IntKind.i64.wrap ((IntKind.i64.wrap (((List.map rdc (trP p)).length:Int) - ((List.map rdc q).length:Int)))+1) >0 then IntKind.i64.wrap ((IntKind.i64.wrap (((List.map rdc (trP p)).length:Int) - ((List.map rdc q).length:Int)))+1) else 0)*40≤_;rw [em];omega),by rw [em];omega⟩,?_⟩
 have hN:(List.replicate ((trP p).length+1 - q.length) (0:Rat)).length=((trP p).length+1 - q.length):=List.length_replicate
 have hfl:∀ i,i≤((trP p).length+1 - q.length)→(flQ (List.replicate ((trP p).length+1 - q.length) 0) i).length=((trP p).length+1 - q.length):=fun i hi=>by rw [Zbf _ (by rw [hN];exact hi),hN]
 have hf0:List.replicate (if IntKind.i64.wrap ((IntKind.i64.wrap (((List.map rdc (trP p)).length:Int) - ((List.map rdc q).length:Int)))+1) >0 then IntKind.i64.wrap ((IntKind.i64.wrap (((List.map rdc (trP p)).length:Int) - ((List.map rdc q).length:Int)))+1) else 0).toNat (rd z0)=flQ (List.replicate ((trP p).length+1 - q.length) 0) 0:=by rw [em];exact ZfY _ hN
 refine⟨Nat,fun i=> [(1,.val (.one (.d (.list (List.map rdc q))))),(4,.val (.one (.row 19 0))),(5,.val (.one (.row 11 0))),(21,int ((((trP p).length+1 - q.length):Nat):Int)),(22,int (i:Int))],
  fun i=> [(11,.row 27 3 0 (List.map rdc (trP p)) true),(19,.row 27 3 0 (flQ (List.replicate ((trP p).length+1 - q.length) 0) i) true)],fun i=>i≤((trP p).length+1 - q.length),fun i=>((trP p).length+1 - q.length) - i,0,?_,Nat.zero_le _,fun i hs=> ?_⟩
 ·constructor<;>(repeat' (first|exact rfl|exact True.intro|exact⟨_,_,rfl⟩|exact(by decide)|apply And.intro))
  all_goals first
   |exact hf0
   |exact hf0.symm
   |exact congrArg (fun n:Int=>D.v (.int .i64 n)) (by rw [List.length_replicate,em,Int.toNat_natCast])
   |exact congrArg (fun n:Int=>D.v (.int .i64 n)) (by omega)
   |(simp;done)
 have hfi:=hfl i hs
 refine⟨fun e1=> ?_,fun e1=> ?_⟩
 ·have f23:(i:Int)< ((((trP p).length+1 - q.length):Nat):Int):=of_decide_eq_true e1
  refine k_of (0) (by omega) (by omega) fun q27 h27 z27=> ?_
  simp only [cn_z] at z27
  refine k_at_own' i (by first|rfl|omega|(rw [wrap64 _ (by omega) (by omega)];omega)|(rw [wrap64 _ (by omega) (by omega)];split<;>omega)) (by first|omega|(simp;omega)) ?_
  refine⟨by first|omega|(simp;omega),?_⟩
  have e27:(flQ (List.replicate ((trP p).length+1 - q.length) 0) i).set i (rdc q27)=flQ (List.replicate ((trP p).length+1 - q.length) 0) (i+1):=by rw [show q27=(0:Rat) from h27];exact Zbe (by rw [List.getElem?_replicate,if_pos (by omega)])
  refine⟨i+1,by omega,by simp only;omega,?_⟩
  constructor<;>(repeat' (first|exact rfl|exact True.intro|apply And.intro))
  all_goals first
   |exact e27
   |exact e27.symm
   |exact congrArg (fun n:Int=>D.v (.int .i64 n)) (by rw [wrap64 _ (by omega) (by omega)];omega)
   |exact congrArg (fun n:Int=>D.v (.int .i64 n)) (by omega)
 ·have f23:¬ ((i:Int)< ((((trP p).length+1 - q.length):Nat):Int)):=of_decide_eq_false e1
  have hi:i=((trP p).length+1 - q.length):=by omega
  have e19:flQ (List.replicate ((trP p).length+1 - q.length) 0) i=List.map rdc (dvS p q 0).1:=by rw [hi];exact ZqS _
  refine⟨Nat,fun t=> [(1,.val (.one (.d (.list (List.map rdc q))))),(4,.val (.one (.row 19 0))),(5,.val (.one (.row 11 0)))],
   fun t=> [(11,.row 27 3 0 (List.map rdc ((dvS p q t).2)) true),(19,.row 27 3 0 (List.map rdc ((dvS p q t).1)) true)],fun t=>t+(dvS p q t).2.length≤p.length,fun t=>(dvS p q t).2.length,0,?_,(by have:=Ze6 p;show 0+(trP p).length≤p.length;omega),fun t hs=> ?_⟩
  ·constructor<;>(repeat' (first|exact rfl|exact True.intro|exact⟨_,_,rfl⟩|exact(by decide)|apply And.intro))
   all_goals first
    |exact e19
    |exact e19.symm
    |(simp;done)
  have ht:=hs
  have hLr:(List.map rdc (dvS p q t).2).length=(dvS p q t).2.length:=List.length_map ..
  have hby:=ZqV p q t
  have hle:=Zok hq0 h0 (p:=p) t
  have hBt:=hB t
  refine⟨fun e2=> ?_,fun e2=> ?_⟩
  ·have f34:((List.map rdc ((dvS p q t).2)).length:Int)≥((List.map rdc q).length:Int):=of_decide_eq_true e2
   have hge:¬ (dvS p q t).2.length< q.length:=by omega
   have hw7:IntKind.i64.wrap (((List.map rdc ((dvS p q t).2)).length:Int) - ((List.map rdc q).length:Int))=((((dvS p q t).2.length - q.length):Nat):Int):=by rw [hLr,hLq,wrap64 (((dvS p q t).2.length:Int) - (q.length:Int)) (by omega) (by omega)];omega
   refine k_at_own' ((dvS p q t).2.length - 1) (by first|rfl|omega|(rw [wrap64 _ (by omega) (by omega)];omega)|(rw [wrap64 _ (by omega) (by omega)];split<;>omega)) (by first|omega|(simp;omega)) ?_
   obtain⟨x48,hx48⟩:∃ vv,((dvS p q t).2)[((dvS p q t).2.length - 1)]? =some vv:=⟨_,List.getElem?_eq_getElem (by first|omega|exact Nat.mod_lt _ (by omega))⟩
   have hzx48:=hBt.2 x48 (List.mem_of_getElem? hx48)
   refine Z0 [D.v (.bool (cn x48).s),D.v (.string (cn x48).a),D.v (.string (cn x48).d)] _ (Zj hx48) rfl rfl ?_
   obtain⟨x53,hx53⟩:∃ vv,q[(q.length - 1)]? =some vv:=⟨_,List.getElem?_eq_getElem (by first|omega|exact Nat.mod_lt _ (by omega))⟩
   have hzx53:=hq.2 x53 (List.mem_of_getElem? hx53)
   refine k_ix (q.length - 1) [D.v (.bool (cn x53).s),D.v (.string (cn x53).a),D.v (.string (cn x53).d)] (by first|rfl|omega|(rw [wrap64 _ (by omega) (by omega)];omega)|(rw [wrap64 _ (by omega) (by omega)];split<;>omega)) (Zj hx53) rfl ?_
   refine Zjl (x:=cn x48) (y:=cn x53) (by simp only [cn_z];omega) (by simp only [cn_z];omega) (by rw [cn_q,← ZhY hx53];exact h0) fun q55 h55 z55=> ?_
   simp only [cn_z] at z55
   simp only [cn_q] at h55
   refine k_at_own' ((dvS p q t).2.length - q.length) (by first|rfl|omega|(rw [wrap64 _ (by omega) (by omega)];omega)|(rw [wrap64 _ (by omega) (by omega)];split<;>omega)) (by first|omega|(simp;omega)) ?_
   refine⟨by first|omega|(simp;omega),?_⟩
   refine⟨by kernel_rfl,?_⟩
   have s11:List.map rdc (dvS p q t).2=List.map rdc (sbF (dvS p q t).2 q ((dvS p q t).2.length - q.length) q55 0):=by rw [Zrn]
   have s19:(List.map rdc (dvS p q t).1).set ((dvS p q t).2.length - q.length) (rdc q55)=List.map rdc ((dvS p q t).1.set ((dvS p q t).2.length - q.length) q55):=List.map_set.symm
   refine⟨Nat,fun i2=> [(1,.val (.one (.d (.list (List.map rdc q))))),(4,.val (.one (.row 19 0))),(5,.val (.one (.row 11 0))),(7,int (IntKind.i64.wrap (((List.map rdc ((dvS p q t).2)).length:Int) - ((List.map rdc q).length:Int)))),(59,.val (.one (.d (.list (List.map rdc q))))),(60,int ((List.map rdc q).length:Int)),(61,int (i2:Int))],
    fun i2=> [(11,.row 27 3 0 (List.map rdc (sbF (dvS p q t).2 q ((dvS p q t).2.length - q.length) q55 i2)) true),(19,.row 27 3 0 (List.map rdc ((dvS p q t).1.set ((dvS p q t).2.length - q.length) q55)) true)],fun i2=>i2≤q.length,fun i2=>q.length - i2,0,?_,Nat.zero_le _,fun i2 hs=> ?_⟩
   ·constructor<;>(repeat' (first|exact rfl|exact True.intro|exact⟨_,_,rfl⟩|exact(by decide)|apply And.intro))
    all_goals first
     |exact s11
     |exact s11.symm
     |exact s19
     |exact s19.symm
     |exact congrArg (fun n:Int=>D.v (.int .i64 n)) (by omega)
     |(simp;done)
   have hLs:(List.map rdc (sbF (dvS p q t).2 q ((dvS p q t).2.length - q.length) q55 i2)).length=(dvS p q t).2.length:=by rw [List.length_map,ZaE]
   have hLs2:=ZaE (dvS p q t).2 q ((dvS p q t).2.length - q.length) q55 i2
   have hLb:(List.map rdc ((dvS p q t).1.set ((dvS p q t).2.length - q.length) q55)).length=((trP p).length+1 - q.length):=by rw [List.length_map,List.length_set];exact hby
   have hLb2:((dvS p q t).1.set ((dvS p q t).2.length - q.length) q55).length=((trP p).length+1 - q.length):=by rw [List.length_set];exact hby
   refine⟨fun e3=> ?_,fun e3=> ?_⟩
   ·have f62:(i2:Int)< ((List.map rdc q).length:Int):=of_decide_eq_true e3
    obtain⟨x64,hx64⟩:∃ vv,q[i2]? =some vv:=⟨_,List.getElem?_eq_getElem (by first|omega|exact Nat.mod_lt _ (by omega))⟩
    have hzx64:=hq.2 x64 (List.mem_of_getElem? hx64)
    refine k_ix i2 [D.v (.bool (cn x64).s),D.v (.string (cn x64).a),D.v (.string (cn x64).d)] (by first|rfl|omega|(rw [wrap64 _ (by omega) (by omega)];omega)|(rw [wrap64 _ (by omega) (by omega)];split<;>omega)) (Zj hx64) rfl ?_
    refine k_at_own' (((dvS p q t).2.length - q.length)+i2) (by first|rfl|omega|(rw [wrap64 _ (by omega) (by omega)];omega)|(rw [wrap64 _ (by omega) (by omega)];split<;>omega)) (by first|omega|(simp;omega)) ?_
    obtain⟨x75,hx75⟩:∃ vv,(sbF (dvS p q t).2 q ((dvS p q t).2.length - q.length) q55 i2)[(((dvS p q t).2.length - q.length)+i2)]? =some vv:=⟨_,List.getElem?_eq_getElem (by first|omega|exact Nat.mod_lt _ (by omega))⟩
    have hzx75:=Zp3 hBt.2 hq.2 (by omega) x75 (List.mem_of_getElem? hx75)
    refine Z0 [D.v (.bool (cn x75).s),D.v (.string (cn x75).a),D.v (.string (cn x75).d)] _ (Zj hx75) rfl rfl ?_
    refine k_at_own' ((dvS p q t).2.length - q.length) (by first|rfl|omega|(rw [wrap64 _ (by omega) (by omega)];omega)|(rw [wrap64 _ (by omega) (by omega)];split<;>omega)) (by first|omega|(simp;omega)) ?_
    obtain⟨x79,hx79⟩:∃ vv,((dvS p q t).1.set ((dvS p q t).2.length - q.length) q55)[((dvS p q t).2.length - q.length)]? =some vv:=⟨_,List.getElem?_eq_getElem (by first|omega|exact Nat.mod_lt _ (by omega))⟩
    have hvx79:x79=q55:=Option.some.inj (hx79.symm.trans (List.getElem?_set_self (by omega)))
    have hzx79:qs x79≤2097300:=by rw [hvx79];omega
    refine Z0 [D.v (.bool (cn x79).s),D.v (.string (cn x79).a),D.v (.string (cn x79).d)] _ (Zj hx79) rfl rfl ?_
    refine ZaL (x:=cn x79) (y:=cn x64) (by simp only [cn_z];omega) (by simp only [cn_z];omega) fun q81 h81 z81=> ?_
    simp only [cn_z] at z81
    simp only [cn_q] at h81
    refine Zjk (x:=cn x75) (y:=cn q81) (by simp only [cn_z];omega) (by simp only [cn_z];omega) fun q82 h82 z82=> ?_
    simp only [cn_z] at z82
    simp only [cn_q] at h82
    refine k_at_own' (((dvS p q t).2.length - q.length)+i2) (by first|rfl|omega|(rw [wrap64 _ (by omega) (by omega)];omega)|(rw [wrap64 _ (by omega) (by omega)];split<;>omega)) (by first|omega|(simp;omega)) ?_
    refine⟨by first|omega|(simp;omega),?_⟩
    refine⟨by kernel_rfl,?_⟩
    have e79:x79=q55:=Option.some.inj (hx79.symm.trans (List.getElem?_set_self (by omega)))
    have e82:(List.map rdc (sbF (dvS p q t).2 q ((dvS p q t).2.length - q.length) q55 i2)).set (((dvS p q t).2.length - q.length)+i2) (rdc q82)=List.map rdc (sbF (dvS p q t).2 q ((dvS p q t).2.length - q.length) q55 (i2+1)):=by rw [← List.map_set,h82,h81,e79,ZoD hx75 hx64]
    refine⟨i2+1,by omega,by simp only;omega,?_⟩
    constructor<;>(repeat' (first|exact rfl|exact True.intro|apply And.intro))
    all_goals first
     |exact e82
     |exact e82.symm
     |exact congrArg (fun n:Int=>D.v (.int .i64 n)) (by rw [wrap64 _ (by omega) (by omega)];omega)
     |exact congrArg (fun n:Int=>D.v (.int .i64 n)) (by omega)
   ·have f62:¬ ((i2:Int)< ((List.map rdc q).length:Int)):=of_decide_eq_false e3
    refine⟨_,_,_,ZnG (sbF (dvS p q t).2 q ((dvS p q t).2.length - q.length) q55 i2) ⟨by rw [ZaE];omega,fun c hc=>Nat.le_trans (Zp3 hBt.2 hq.2 (by omega) c hc) (by decide)⟩,?_⟩
    have hi2:i2=q.length:=by omega
    have ec:q55=lsQ (dvS p q t).2 / lsQ q:=by rw [h55,ZhY hx48,ZhY hx53]
    have hgo:=Zir hge
    rw [← ec] at hgo
    have g11:List.map rdc (trP (sbF (dvS p q t).2 q ((dvS p q t).2.length - q.length) q55 i2))=List.map rdc (dvS p q (t+1)).2:=by rw [hi2];exact congrArg (fun s:List Rat×List Rat=>List.map rdc s.2) hgo.symm
    have g19:List.map rdc ((dvS p q t).1.set ((dvS p q t).2.length - q.length) q55)=List.map rdc (dvS p q (t+1)).1:=congrArg (fun s:List Rat×List Rat=>List.map rdc s.1) hgo.symm
    refine⟨t+1,(by have:=Znm hq0 h0 hge;omega),Znm hq0 h0 hge,?_⟩
    constructor<;>(repeat' (first|exact rfl|exact True.intro|apply And.intro))
    all_goals first
     |exact g11
     |exact g11.symm
     |exact g19
     |exact g19.symm
     |exact congrArg (fun n:Int=>D.v (.int .i64 n)) (by rw [wrap64 _ (by omega) (by omega)];omega)
     |exact congrArg (fun n:Int=>D.v (.int .i64 n)) (by omega)
  ·have f34:¬ (((List.map rdc ((dvS p q t).2)).length:Int)≥((List.map rdc q).length:Int)):=of_decide_eq_false e2
   refine Eq.trans (b:= .tup [.one (.d (.list (List.map rdc ((dvS p q t).1)))),.one (.d (.list (List.map rdc ((dvS p q t).2))))]) ?_ rfl
   have hF:dvF p q=dvS p q t:=Zcm (by omega) _ (by omega)
   rw [hF]
   all_goals rfl
end
end Go.Proofs.YtiekmbmgpachpaaGreatDoor.eng
namespace Go.Proofs.YtiekmbmgpachpaaGreatDoor.eng
open Go.RowKit num mem seg q held ratA ratB ratC ratD ratE vars ratF trq
section
variable {K : AV → Prop}
set_option maxHeartbeats 2000000 in
theorem Zoz (P:List RV) (hP:P.length≤1048576∧∀ y,y∈P→y.z≤1048576):Spec Tryz.prog Tab 113 [.val (.one (.d (.list (List.map rd P))))] (.val (.one (.d (.list (List.map rdc (trQ P)))))):=by
 have hL:(List.map rd P).length=P.length:=List.length_map ..
 have hP1:=hP.1
 refine Zd Tryz.func113 rfl rfl Tryz.ntmps113 rfl (by kernel_rfl) rfl rfl ?_
 refine⟨Nat,fun n=> [(0,.val (.one (.d (.list (List.map rd P))))),(3,int (n:Int))],
  fun n=> [],fun n=>n≤P.length∧∀ (j:Nat) (y:RV),n≤j→P[j]? =some y→y.q=0,fun n=>n,P.length,?_,⟨Nat.le_refl _,fun j y hj hy=>by have:=(List.getElem?_eq_some_iff.1 hy).1;omega⟩,fun n hs=> ?_⟩
 ·constructor<;>(repeat' (first|exact rfl|exact True.intro|exact⟨_,_,rfl⟩|exact(by decide)|apply And.intro))
  all_goals first|exact congrArg (fun n:Int=>D.v (.int .i64 n)) (by omega)|exact congrArg (fun n:Int=>D.v (.int .i64 n)) (by rw [wrap64 _ (by omega) (by omega)];omega)|(simp;done)
 have g1:=hs.1
 have g2:=hs.2
 refine fork (fun e1=> ?_) (fun e1=> ?_)
 ·have f10:(n:Int) >0:=of_decide_eq_true e1
  obtain⟨x14,hx14⟩:∃ vv,P[(n - 1)]? =some vv:=⟨_,List.getElem?_eq_getElem (by first|omega|exact Nat.mod_lt _ (by omega))⟩
  have hzx14:=hP.2 x14 (List.mem_of_getElem? hx14)
  refine k_ix (n - 1) [D.v (.bool x14.s),D.v (.string x14.a),D.v (.string x14.d)] (by first|rfl|omega|(rw [wrap64 _ (by omega) (by omega)];omega)|(rw [wrap64 _ (by omega) (by omega)];split<;>omega)) (Zj hx14) rfl ?_
  refine Zdc (x:=x14) (by omega) fun n16 h16=> ?_
  refine⟨fun e2=> ?_,fun e2=> ?_⟩
  ·have f18:x14.q=0:=(Zar h16).1 (ZaN e2)
   refine⟨n - 1,⟨by omega,fun j y hj hy=>by
    by_cases e:j=n - 1
    ·subst e;obtain rfl:=Option.some.inj (hx14.symm.trans hy);exact f18
    ·exact g2 j y (by omega) hy⟩,by simp only;omega,?_⟩
   constructor<;>(repeat' (first|exact rfl|exact True.intro|apply And.intro))
   all_goals first
    |exact congrArg (fun n:Int=>D.v (.int .i64 n)) (by rw [wrap64 _ (by omega) (by omega)];omega)
    |exact congrArg (fun n:Int=>D.v (.int .i64 n)) (by omega)
  ·have f18:¬ (x14.q=0):=fun hh=>ZaO e2 ((Zar h16).2 hh)
   refine⟨⟨by omega,rfl,(by show ((n:Int))*40≤_;omega),by omega⟩,?_⟩
   have hcut:n=0∨∃ y:RV,P[n - 1]? =some y∧y.q≠0:= .inr ⟨x14,hx14,f18⟩
   have hN:(tlQ P n).length=n:=ZcQ g1
   have hfl:∀ i,i≤n→(flQ (tlQ P n) i).length=n:=fun i hi=>by rw [Zbf _ (by omega),hN]
   have hf0:=ZfY (tlQ P n) hN
   refine⟨Nat,fun i=> [(0,.val (.one (.d (.list (List.map rd P))))),(4,.val (.one (.row 22 0))),(24,int (n:Int)),(25,int (i:Int))],
    fun i=> [(22,.row 27 3 0 (flQ (tlQ P n) i) true)],fun i=>i≤n,fun i=>n - i,0,?_,Nat.zero_le _,fun i hs=> ?_⟩
   ·constructor<;>(repeat' (first|exact rfl|exact True.intro|exact⟨_,_,rfl⟩|exact(by decide)|apply And.intro))
    all_goals first
     |exact hf0
     |exact hf0.symm
     |exact congrArg (fun n:Int=>D.v (.int .i64 n)) (by rw [List.length_replicate,Int.toNat_natCast])
     |exact congrArg (fun n:Int=>D.v (.int .i64 n)) (by omega)
     |(simp;done)
   have hfi:=hfl i hs
   refine⟨fun e3=> ?_,fun e3=> ?_⟩
   ·have f26:(i:Int)< (n:Int):=of_decide_eq_true e3
    obtain⟨x32,hx32⟩:∃ vv,P[i]? =some vv:=⟨_,List.getElem?_eq_getElem (by first|omega|exact Nat.mod_lt _ (by omega))⟩
    have hzx32:=hP.2 x32 (List.mem_of_getElem? hx32)
    refine k_ix i [D.v (.bool x32.s),D.v (.string x32.a),D.v (.string x32.d)] (by first|rfl|omega|(rw [wrap64 _ (by omega) (by omega)];omega)|(rw [wrap64 _ (by omega) (by omega)];split<;>omega)) (Zj hx32) rfl ?_
    refine k_ix i [D.v (.bool x32.s),D.v (.string x32.a),D.v (.string x32.d)] (by first|rfl|omega|(rw [wrap64 _ (by omega) (by omega)];omega)|(rw [wrap64 _ (by omega) (by omega)];split<;>omega)) (Zj hx32) rfl ?_
    refine Zbz (x:=x32) (by omega) fun q38 h38 z38=> ?_
    simp only [cn_z] at z38
    refine k_at_own' i (by first|rfl|omega|(rw [wrap64 _ (by omega) (by omega)];omega)|(rw [wrap64 _ (by omega) (by omega)];split<;>omega)) (by first|omega|(simp;omega)) ?_
    refine⟨by first|omega|(simp;omega),?_⟩
    refine⟨by kernel_rfl,?_⟩
    have e38:(flQ (tlQ P n) i).set i (rdc q38)=flQ (tlQ P n) (i+1):=by rw [h38];exact Zbe (Zht hx32 (by omega))
    refine⟨i+1,by omega,by simp only;omega,?_⟩
    constructor<;>(repeat' (first|exact rfl|exact True.intro|apply And.intro))
    all_goals first
     |exact e38
     |exact e38.symm
     |exact congrArg (fun n:Int=>D.v (.int .i64 n)) (by rw [wrap64 _ (by omega) (by omega)];omega)
     |exact congrArg (fun n:Int=>D.v (.int .i64 n)) (by omega)
   ·have f26:¬ ((i:Int)< (n:Int)):=of_decide_eq_false e3
    refine Eq.trans (b:= .val (.one (.d (.list (flQ (tlQ P n) i))))) ?_ rfl
    obtain rfl:i=n:=by omega
    have hT:trQ P=tlQ P i:=by unfold trQ;rw [ZcO P i g1 g2 hcut]
    rw [hT,← Zbg (tlQ P i),hN]
    all_goals rfl
 ·have f10:¬ ((n:Int) >0):=of_decide_eq_false e1
  refine⟨fun e=>absurd e (by decide),fun _=> ?_⟩
  refine⟨⟨by omega,rfl,(by show ((n:Int))*40≤_;omega),by omega⟩,?_⟩
  have hcut:n=0∨∃ y:RV,P[n - 1]? =some y∧y.q≠0:= .inl (by omega)
  have hN:(tlQ P n).length=n:=ZcQ g1
  have hfl:∀ i,i≤n→(flQ (tlQ P n) i).length=n:=fun i hi=>by rw [Zbf _ (by omega),hN]
  have hf0:=ZfY (tlQ P n) hN
  refine⟨Nat,fun i=> [(0,.val (.one (.d (.list (List.map rd P))))),(4,.val (.one (.row 22 0))),(24,int (n:Int)),(25,int (i:Int))],
   fun i=> [(22,.row 27 3 0 (flQ (tlQ P n) i) true)],fun i=>i≤n,fun i=>n - i,0,?_,Nat.zero_le _,fun i hs=> ?_⟩
  ·constructor<;>(repeat' (first|exact rfl|exact True.intro|exact⟨_,_,rfl⟩|exact(by decide)|apply And.intro))
   all_goals first
    |exact hf0
    |exact hf0.symm
    |exact congrArg (fun n:Int=>D.v (.int .i64 n)) (by rw [List.length_replicate,Int.toNat_natCast])
    |exact congrArg (fun n:Int=>D.v (.int .i64 n)) (by omega)
    |(simp;done)
  have hfi:=hfl i hs
  refine⟨fun e4=> ?_,fun e4=> ?_⟩
  ·have f26:(i:Int)< (n:Int):=of_decide_eq_true e4
   obtain⟨x32,hx32⟩:∃ vv,P[i]? =some vv:=⟨_,List.getElem?_eq_getElem (by first|omega|exact Nat.mod_lt _ (by omega))⟩
   have hzx32:=hP.2 x32 (List.mem_of_getElem? hx32)
   refine k_ix i [D.v (.bool x32.s),D.v (.string x32.a),D.v (.string x32.d)] (by first|rfl|omega|(rw [wrap64 _ (by omega) (by omega)];omega)|(rw [wrap64 _ (by omega) (by omega)];split<;>omega)) (Zj hx32) rfl ?_
   refine k_ix i [D.v (.bool x32.s),D.v (.string x32.a),D.v (.string x32.d)] (by first|rfl|omega|(rw [wrap64 _ (by omega) (by omega)];omega)|(rw [wrap64 _ (by omega) (by omega)];split<;>omega)) (Zj hx32) rfl ?_
   refine Zbz (x:=x32) (by omega) fun q38 h38 z38=> ?_
   simp only [cn_z] at z38
   refine k_at_own' i (by first|rfl|omega|(rw [wrap64 _ (by omega) (by omega)];omega)|(rw [wrap64 _ (by omega) (by omega)];split<;>omega)) (by first|omega|(simp;omega)) ?_
   refine⟨by first|omega|(simp;omega),?_⟩
   refine⟨by kernel_rfl,?_⟩
   have e38:(flQ (tlQ P n) i).set i (rdc q38)=flQ (tlQ P n) (i+1):=by rw [h38];exact Zbe (Zht hx32 (by omega))
   refine⟨i+1,by omega,by simp only;omega,?_⟩
   constructor<;>(repeat' (first|exact rfl|exact True.intro|apply And.intro))
   all_goals first
    |exact e38
    |exact e38.symm
    |exact congrArg (fun n:Int=>D.v (.int .i64 n)) (by rw [wrap64 _ (by omega) (by omega)];omega)
    |exact congrArg (fun n:Int=>D.v (.int .i64 n)) (by omega)
  ·have f26:¬ ((i:Int)< (n:Int)):=of_decide_eq_false e4
   refine Eq.trans (b:= .val (.one (.d (.list (flQ (tlQ P n) i))))) ?_ rfl
   obtain rfl:i=n:=by omega
   have hT:trQ P=tlQ P i:=by unfold trQ;rw [ZcO P i g1 g2 hcut]
   rw [hT,← Zbg (tlQ P i),hN]
   all_goals rfl
set_option maxHeartbeats 2000000 in
theorem Zeu (p:List Rat) (hp:p.length≤1048576∧(∀ c,c∈p→qs c≤1099511627776)∧∀ d:Rat,p[p.length - 1]? =some d→d≠0):Spec Tryz.prog Tab 132 [.val (.one (.d (.list (List.map rdc p))))] (.val (.one (.d (.list (List.map rdc (scQ p)))))):=by
 have hL:(List.map rdc p).length=p.length:=List.length_map ..
 have hp1:=hp.1
 refine Zd Tryz.func132 rfl rfl Tryz.ntmps132 rfl (by kernel_rfl) rfl rfl ?_
 refine⟨⟨by omega,rfl,(by show (((List.map rdc p).length:Int))*40≤_;omega),by omega⟩,?_⟩
 have hN:=Zev p
 have hfl:∀ i,i≤p.length→(flQ (scQ p) i).length=p.length:=fun i hi=>by rw [Zbf _ (by omega),hN]
 have hf0:List.replicate (((List.map rdc p).length:Int)).toNat (rd z0)=flQ (scQ p) 0:=by rw [hL];exact ZfY (scQ p) hN
 refine⟨Nat,fun i=> [(0,.val (.one (.d (.list (List.map rdc p))))),(3,.val (.one (.row 8 0))),(9,.val (.one (.d (.list (List.map rdc p))))),(10,int ((List.map rdc p).length:Int)),(11,int (i:Int))],
  fun i=> [(8,.row 27 3 0 (flQ (scQ p) i) true)],fun i=>i≤p.length,fun i=>p.length - i,0,?_,Nat.zero_le _,fun i hs=> ?_⟩
 ·constructor<;>(repeat' (first|exact rfl|exact True.intro|exact⟨_,_,rfl⟩|exact(by decide)|apply And.intro))
  all_goals first
   |exact hf0
   |exact hf0.symm
   |exact congrArg (fun n:Int=>D.v (.int .i64 n)) (by omega)
   |(simp;done)
 have hfi:=hfl i hs
 refine⟨fun e1=> ?_,fun e1=> ?_⟩
 ·have f12:(i:Int)< ((List.map rdc p).length:Int):=of_decide_eq_true e1
  obtain⟨x14,hx14⟩:∃ vv,p[i]? =some vv:=⟨_,List.getElem?_eq_getElem (by first|omega|exact Nat.mod_lt _ (by omega))⟩
  have hzx14:=hp.2.1 x14 (List.mem_of_getElem? hx14)
  refine k_ix i [D.v (.bool (cn x14).s),D.v (.string (cn x14).a),D.v (.string (cn x14).d)] (by first|rfl|omega|(rw [wrap64 _ (by omega) (by omega)];omega)|(rw [wrap64 _ (by omega) (by omega)];split<;>omega)) (Zj hx14) rfl ?_
  obtain⟨x24,hx24⟩:∃ vv,p[(p.length - 1)]? =some vv:=⟨_,List.getElem?_eq_getElem (by first|omega|exact Nat.mod_lt _ (by omega))⟩
  have hzx24:=hp.2.1 x24 (List.mem_of_getElem? hx24)
  refine k_ix (p.length - 1) [D.v (.bool (cn x24).s),D.v (.string (cn x24).a),D.v (.string (cn x24).d)] (by first|rfl|omega|(rw [wrap64 _ (by omega) (by omega)];omega)|(rw [wrap64 _ (by omega) (by omega)];split<;>omega)) (Zj hx24) rfl ?_
  refine Zoc (x:=cn x24) (by simp only [cn_z];omega) fun q26 h26 z26=> ?_
  simp only [cn_z] at z26
  simp only [cn_q] at h26
  refine Zjl (x:=cn x14) (y:=cn q26) (by simp only [cn_z];omega) (by simp only [cn_z];omega) (by rw [cn_q,h26];exact Zmf (hp.2.2 _ hx24)) fun q27 h27 z27=> ?_
  simp only [cn_z] at z27
  simp only [cn_q] at h27
  refine k_at_own' i (by first|rfl|omega|(rw [wrap64 _ (by omega) (by omega)];omega)|(rw [wrap64 _ (by omega) (by omega)];split<;>omega)) (by first|omega|(simp;omega)) ?_
  refine⟨by first|omega|(simp;omega),?_⟩
  refine⟨by kernel_rfl,?_⟩
  have e27:(flQ (scQ p) i).set i (rdc q27)=flQ (scQ p) (i+1):=by rw [h27,h26];exact Zbe (ZnR hx14 hx24)
  refine⟨i+1,by omega,by simp only;omega,?_⟩
  constructor<;>(repeat' (first|exact rfl|exact True.intro|apply And.intro))
  all_goals first
   |exact e27
   |exact e27.symm
   |exact congrArg (fun n:Int=>D.v (.int .i64 n)) (by rw [wrap64 _ (by omega) (by omega)];omega)
   |exact congrArg (fun n:Int=>D.v (.int .i64 n)) (by omega)
 ·have f12:¬ ((i:Int)< ((List.map rdc p).length:Int)):=of_decide_eq_false e1
  refine Eq.trans (b:= .val (.one (.d (.list (flQ (scQ p) i))))) ?_ rfl
  obtain rfl:i=p.length:=by omega
  rw [← Zbg (scQ p),hN]
  all_goals rfl
set_option maxHeartbeats 2000000 in
theorem Ziu (p:List Rat) (hp:p.length≤1048576∧∀ c,c∈p→qs c≤1073741824):Spec Tryz.prog Tab 131 [.val (.one (.d (.list (List.map rdc p))))] (.val (.one (.d (.list (List.map rdc (trP (drF p (p.length - 1)))))))):=by
 have hL:(List.map rdc p).length=p.length:=List.length_map ..
 have hp1:=hp.1
 refine Zcw [22] Tryz.func131 rfl rfl Tryz.ntmps131 rfl (by kernel_rfl) rfl rfl ?_
 refine⟨Nat,fun i=> [(0,.val (.one (.d (.list (List.map rdc p))))),(3,.val (.one (.row 20 0))),(4,int ((i:Int)+1))],
  fun i=> [(20,.row 27 3 0 (List.map rdc (drF p i)) true)],fun i=>i≤p.length - 1,fun i=>p.length - 1 - i,0,?_,Nat.zero_le _,fun i hs=> ?_⟩
 ·constructor<;>(repeat' (first|exact rfl|exact True.intro|exact⟨_,_,rfl⟩|exact(by decide)|apply And.intro))
  all_goals first|exact congrArg (fun n:Int=>D.v (.int .i64 n)) (by omega)|exact congrArg (fun n:Int=>D.v (.int .i64 n)) (by rw [wrap64 _ (by omega) (by omega)];omega)|(simp;done)
 have hT:(List.map rdc (drF p i)).length≤1048576:=by rw [List.length_map,Zg6];omega
 refine⟨fun e1=> ?_,fun e1=> ?_⟩
 ·have f8:(i:Int)+1< ((List.map rdc p).length:Int):=of_decide_eq_true e1
  refine k_of ((i:Int)+1) (by omega) (by omega) fun q13 h13 z13=> ?_
  simp only [cn_z] at z13
  obtain⟨x16,hx16⟩:∃ vv,p[(i+1)]? =some vv:=⟨_,List.getElem?_eq_getElem (by first|omega|exact Nat.mod_lt _ (by omega))⟩
  have hzx16:=hp.2 x16 (List.mem_of_getElem? hx16)
  refine k_ix (i+1) [D.v (.bool (cn x16).s),D.v (.string (cn x16).a),D.v (.string (cn x16).d)] (by first|rfl|omega|(rw [wrap64 _ (by omega) (by omega)];omega)|(rw [wrap64 _ (by omega) (by omega)];split<;>omega)) (Zj hx16) rfl ?_
  refine ZaL (x:=cn q13) (y:=cn x16) (by simp only [cn_z];omega) (by simp only [cn_z];omega) fun q18 h18 z18=> ?_
  simp only [cn_z] at z18
  simp only [cn_q] at h18
  refine⟨⟨row1 rfl,(by show ((List.map rdc (drF p i)).length+1)*40≤_;omega),(by show ((List.map rdc (drF p i)).length+1)≤_;omega)⟩,?_⟩
  refine⟨by kernel_rfl,?_⟩
  have e18:q18=drQ p i:=by rw [ZqY hx16,h18,h13]
  refine⟨i+1,by omega,by simp only;omega,?_⟩
  constructor<;>(repeat' (first|exact rfl|exact True.intro|apply And.intro))
  all_goals first
   |(rw [Zno,← e18];rfl)
   |exact congrArg (fun n:Int=>D.v (.int .i64 n)) (by rw [wrap64 _ (by omega) (by omega)];omega)
   |exact congrArg (fun n:Int=>D.v (.int .i64 n)) (by omega)
 ·have f8:¬ ((i:Int)+1< ((List.map rdc p).length:Int)):=of_decide_eq_false e1
  refine⟨_,_,_,ZnG (drF p i) ⟨by rw [Zg6];omega,fun c hc=>Nat.le_trans (ZrC hp.2 (by omega) c hc) (by decide)⟩,?_⟩
  refine Eq.trans (b:= .val (.one (.d (.list (List.map rdc (trP (drF p i))))))) ?_ rfl
  obtain rfl:i=p.length - 1:=by omega
  rfl
theorem ZnH (p:List Rat) (hp:p.length≤1048576∧∀ c,c∈p→qs c≤1048576):Spec Tryz.prog Tab 113 [.val (.one (.d (.list (List.map rdc p))))] (.val (.one (.d (.list (List.map rdc (trP p)))))):=by
 rw [ZoI p];exact Zoz (p.map cn) (Zf9 hp)
def gdP (p:List Rat):Prop:=∀ d:Rat,p[p.length - 1]? =some d→d≠0
theorem Zlw {p:List Rat} (h:gdP p) (h0:p≠ []):lsQ p≠0:=by
 have hl:p.length - 1< p.length:=by have:=List.length_pos_iff.2 h0;omega
 rw [ZhY (List.getElem?_eq_getElem hl)]
 exact h _ (List.getElem?_eq_getElem hl)
theorem Zhs:∀ (P:List RV) (y:RV),0< trN P→P[trN P - 1]? =some y→y.q≠0
 | [],y,h,_=>by simp [trN] at h
 |a :: l,y,h,hy=>by
  by_cases h0:trN l=0
  ·by_cases ha:a.q=0
   ·have:trN (a :: l)=0:=by unfold trN;rw [if_pos h0,if_pos ha]
    omega
   ·have e:trN (a :: l)=1:=by unfold trN;rw [if_pos h0,if_neg ha]
    rw [e] at hy
    obtain rfl:a=y:=by simpa using hy
    exact ha
  ·have e:trN (a :: l)=trN l+1:=by
    show (if trN l=0 then (if a.q=0 then 0 else 1) else trN l+1)=_
    rw [if_neg h0]
   rw [e] at hy
   refine Zhs l y (by omega) ?_
   rw [show trN l+1 - 1=(trN l - 1)+1 by omega,List.getElem?_cons_succ] at hy
   exact hy
theorem Zhr (p:List Rat):gdP (trP p):=by
 intro d hd
 have hlen:=Zgi p
 have hpos:0< (trP p).length:=by have:=(List.getElem?_eq_some_iff.1 hd).1;omega
 rw [hlen] at hd hpos
 unfold trP trQ tlQ at hd
 rw [List.getElem?_map,List.getElem?_take_of_lt (by omega)] at hd
 obtain⟨y,hy,rfl⟩:=Option.map_eq_some_iff.1 hd
 exact Zhs (p.map cn) y hpos hy
theorem Zp2 {p:List Rat} (h:gdP p):gdP (scQ p):=by
 intro d hd
 rw [Zev] at hd
 have hl:p.length - 1< p.length:=by have:=(List.getElem?_eq_some_iff.1 hd).1;rw [Zev] at this;exact this
 have hp:=List.getElem?_eq_getElem hl
 rw [ZnR hp hp] at hd
 obtain rfl:=Option.some.inj hd
 have h1:=h _ hp
 have h2:=Zmf h1
 grind
theorem Zol (p q:List Rat):∀ t,gdP (dvS p q t).2
 |0=>Zhr p
 |t+1=>by
  by_cases h:(dvS p q t).2.length< q.length
  ·rw [Zcm h (t+1) (by omega)];exact Zol p q t
  ·rw [Zir h];exact Zhr _
theorem ZqX {p q:List Rat} (hq:0< q.length) (h0:lsQ q≠0):(dvF p q).2.length< q.length:=by
 have key:∀ t,(dvS p q t).2.length< q.length∨t+(dvS p q t).2.length≤p.length:=by
  intro t
  induction t with
  |zero=>exact .inr (by have:=Ze6 p;show 0+(trP p).length≤_;omega)
  |succ t ih=>
   by_cases h:(dvS p q t).2.length< q.length
   ·exact .inl (by rw [Zcm h (t+1) (by omega)];exact h)
   ·rcases ih with ih|ih
    ·exact absurd ih h
    ·have:=Znm hq h0 h;exact .inr (by omega)
 rcases key (p.length+1) with h|h
 ·exact h
 ·omega
def zO (l:List Rat):Prop:=l.length≤1048576∧∀ c,c∈l→qs c≤1048576
def dvZ (p q:List Rat):Prop:=∀ t,(∀ c,c∈(dvS p q t).1→qs c≤1048576)∧∀ c,c∈(dvS p q t).2→qs c≤1048576
def plT (s:List Rat×List Rat):List Rat×List Rat:=if s.2= [] then s else (scQ s.2,(dvF s.1 s.2).2)
def plS (p:List Rat):Nat→List Rat×List Rat
 |0=>(p,trP (drF p (p.length - 1)))
 |t+1=>plT (plS p t)
def plF (p:List Rat):List Rat×List Rat:=plS p p.length
def plQ (p:List Rat):List Rat:=scQ (trP (dvF p (plF p).1).1)
def plZ (p:List Rat):Prop:=(∀ t,zO (plS p t).1∧zO (plS p t).2∧dvZ (plS p t).1 (plS p t).2)∧dvZ p (plF p).1∧zO (dvF p (plF p).1).1
theorem ZnW {p:List Rat} {t:Nat} (h:¬ (plS p t).2= []):plS p (t+1)=(scQ (plS p t).2,(dvF (plS p t).1 (plS p t).2).2):=if_neg h
theorem ZgS {p : List Rat} {t : Nat} (h : (plS p t).2 = []) : ∀ n, t ≤ n → plS p n = plS p t := by
  intro n
  induction n with
  | zero => intro hn; obtain rfl : t = 0 := by omega
            rfl
  | succ n ih =>
    intro hn
    by_cases e : t = n + 1
    · rw [e]
    · have := ih (by omega)
      show plT (plS p n) = _
      rw [this]; exact if_pos h
theorem ZnX {p:List Rat} (h:gdP p) (h0:p≠ []):∀ t,(gdP (plS p t).1∧(plS p t).1≠ [])∧gdP (plS p t).2
 |0=>⟨⟨h,h0⟩,Zhr _⟩
 |t+1=>by
  obtain⟨⟨a1,a2⟩,a3⟩:=ZnX h h0 t
  by_cases e:(plS p t).2= []
  ·rw [ZgS e (t+1) (by omega)];exact⟨⟨a1,a2⟩,a3⟩
  ·rw [ZnW e]
   exact⟨⟨Zp2 a3,fun g=>e (List.length_eq_zero_iff.1 (by have:=congrArg List.length g;rw [Zev] at this;exact this))⟩,Zol _ _ _⟩
theorem Zet {p:List Rat} (h:zO p) (g:gdP p):p.length≤1048576∧(∀ c,c∈p→qs c≤1099511627776)∧∀ d:Rat,p[p.length - 1]? =some d→d≠0:=⟨h.1,fun c hc=>Nat.le_trans (h.2 c hc) (by decide),g⟩
theorem ZpP {p:List Rat} (h:zO p):zO (trP p):=by
 refine⟨Nat.le_trans (Ze6 p) h.1,fun c hc=> ?_⟩
 unfold trP trQ tlQ at hc
 obtain⟨y,hy,rfl⟩:=List.mem_map.1 hc
 obtain⟨d,hd,rfl⟩:=List.mem_map.1 (List.mem_of_mem_take hy)
 rw [cn_q];exact h.2 d hd
set_option maxHeartbeats 2000000 in
theorem Zfa (p:List Rat) (hp0:p≠ []) (hg:gdP p) (hZ:plZ p):Spec Tryz.prog Tab 115 [.val (.one (.d (.list (List.map rdc p))))] (.val (.one (.d (.list (List.map rdc (plQ p)))))):=by
 have hz0:zO p:=(hZ.1 0).1
 refine Zd Tryz.func115 rfl rfl Tryz.ntmps115 rfl (by kernel_rfl) rfl rfl ?_
 refine use (Ziu p ⟨hz0.1,fun c hc=>Nat.le_trans (hz0.2 c hc) (by decide)⟩) rfl ?_
 refine⟨Nat,fun t=> [(0,.val (.one (.d (.list (List.map rdc p))))),(3,.val (.one (.d (.list (List.map rdc ((plS p t).1)))))),(4,.val (.one (.d (.list (List.map rdc ((plS p t).2))))))],
  fun t=> [],fun t=>t+(plS p t).2.length≤p.length,fun t=>(plS p t).2.length,0,?_,(by have:=Ze6 (drF p (p.length - 1));rw [Zg6] at this;show 0+(trP (drF p (p.length - 1))).length≤p.length;omega),fun t hs=> ?_⟩
 ·constructor<;>(repeat' (first|exact rfl|exact True.intro|exact⟨_,_,rfl⟩|exact(by decide)|apply And.intro))
  all_goals first|exact congrArg (fun n:Int=>D.v (.int .i64 n)) (by omega)|exact congrArg (fun n:Int=>D.v (.int .i64 n)) (by rw [wrap64 _ (by omega) (by omega)];omega)|(simp;done)
 have ht:=hs
 have hzt:=hZ.1 t
 have hgt:=ZnX hg hp0 t
 have hLb:(List.map rdc (plS p t).2).length=(plS p t).2.length:=List.length_map ..
 refine⟨fun e1=> ?_,fun e1=> ?_⟩
 ·have f14:((List.map rdc ((plS p t).2)).length:Int) >0:=of_decide_eq_true e1
  have hb0:0< (plS p t).2.length:=by omega
  have hne:¬ (plS p t).2= []:=List.length_pos_iff.1 hb0
  refine use (ZbM (plS p t).1 (plS p t).2 hzt.1 hzt.2.1 hb0 (Zlw hgt.2 hne) hzt.2.2) rfl ?_
  refine use (Zeu (plS p t).2 (Zet hzt.2.1 hgt.2)) rfl ?_
  have hgo:=ZnW hne
  have hlt:=ZqX (p:=(plS p t).1) hb0 (Zlw hgt.2 hne)
  have g1:D.list (List.map rdc (scQ (plS p t).2))=D.list (List.map rdc (plS p (t+1)).1):=by rw [hgo];try rfl
  have g2:D.list (List.map rdc ((dvF (plS p t).1 (plS p t).2).2))=D.list (List.map rdc (plS p (t+1)).2):=by rw [hgo];try rfl
  refine⟨t+1,(by show t+1+(plS p (t+1)).2.length≤p.length;rw [hgo];show t+1+(dvF (plS p t).1 (plS p t).2).2.length≤p.length;omega),(by show (plS p (t+1)).2.length< (plS p t).2.length;rw [hgo];exact hlt),?_⟩
  constructor<;>(repeat' (first|exact rfl|exact True.intro|apply And.intro))
  all_goals first
   |exact g1
   |exact g2
   |exact g1.symm
   |exact g2.symm
   |exact congrArg (fun n:Int=>D.v (.int .i64 n)) (by rw [wrap64 _ (by omega) (by omega)];omega)
   |exact congrArg (fun n:Int=>D.v (.int .i64 n)) (by omega)
 ·have f14:¬ (((List.map rdc ((plS p t).2)).length:Int) >0):=of_decide_eq_false e1
  have hb1:(plS p t).2= []:=List.length_eq_zero_iff.1 (by omega)
  have hF:plF p=plS p t:=ZgS hb1 _ (by omega)
  refine use (ZbM p (plS p t).1 hz0 hzt.1 (List.length_pos_iff.2 hgt.1.2) (Zlw hgt.1.1 hgt.1.2) (by rw [← hF];exact hZ.2.1)) rfl ?_
  refine use (ZnH (dvF p (plS p t).1).1 (by rw [← hF];exact hZ.2.2)) rfl ?_
  refine use (Zeu (trP (dvF p (plS p t).1).1) (Zet (ZpP (by rw [← hF];exact hZ.2.2)) (Zhr _))) rfl ?_
  refine Eq.trans (b:= .val (.one (.d (.list (List.map rdc (scQ (trP (dvF p (plS p t).1).1))))))) ?_ rfl
  rw [show plQ p=scQ (trP (dvF p (plF p).1).1) from rfl,hF]
  all_goals rfl
end
end Go.Proofs.YtiekmbmgpachpaaGreatDoor.eng
namespace Go.Proofs.YtiekmbmgpachpaaGreatDoor.eng
open Go.RowKit num mem seg q held ratA ratB ratC ratD ratE vars ratF trq
section
variable {K : AV → Prop}
theorem Zcr {p:List Rat} (h:decide (p.length≤1048576)=true) (g:p.all (fun c=>decide (qs c≤1048576))=true):zO p:=⟨of_decide_eq_true h,fun c hc=>of_decide_eq_true (List.all_eq_true.1 g c hc)⟩
theorem ZqW {p q:List Rat} (n:Nat) (h:(dvS p q n).2.length< q.length) (g:∀ t,t≤n→(∀ c,c∈(dvS p q t).1→qs c≤1048576)∧∀ c,c∈(dvS p q t).2→qs c≤1048576):dvZ p q:=fun t=>by
 by_cases ht:t≤n
 ·exact g t ht
 ·rw [Zcm h t (by omega)];exact g n (Nat.le_refl _)
theorem Zob {p q a b:List Rat} (hp:zO p) (hq:zO q) (hq0:0< q.length) (h0:lsQ q≠0) (hB:dvZ p q) (h:dvF p q=(a,b)) (k:K (.tup [.one (.d (.list (List.map rdc a))),.one (.d (.list (List.map rdc b)))])):Ask 133 [.val (.one (.d (.list (List.map rdc p)))),.val (.one (.d (.list (List.map rdc q))))] K:=
 use (ZbM p q hp hq hq0 h0 hB) rfl (by rw [h];exact k)
theorem Zn3 {p a:List Rat} (hp:zO p) (hg:gdP p) (h:scQ p=a) (k:K (.val (.one (.d (.list (List.map rdc a)))))):Ask 132 [.val (.one (.d (.list (List.map rdc p))))] K:=
 use (Zeu p (Zet hp hg)) rfl (by rw [h];exact k)
theorem ZqG {p a:List Rat} (hp:zO p) (h:trP (drF p (p.length - 1))=a) (k:K (.val (.one (.d (.list (List.map rdc a)))))):Ask 131 [.val (.one (.d (.list (List.map rdc p))))] K:=
 use (Ziu p ⟨hp.1,fun c hc=>Nat.le_trans (hp.2 c hc) (by decide)⟩) rfl (by rw [h];exact k)
theorem Zlv {p:List Rat} {d:Rat} (h:p[p.length - 1]? =some d) (hd:d≠0):gdP p:=fun e he=>by rw [h] at he;obtain rfl:=Option.some.inj he;exact hd
theorem zC1:zO [1,0,-1]:=Zcr (by decide+kernel) (by decide+kernel)
theorem zC2:zO [0,-1]:=Zcr (by decide+kernel) (by decide+kernel)
theorem zC3:zO [-1]:=Zcr (by decide+kernel) (by decide+kernel)
theorem zC4:zO [0,-2]:=Zcr (by decide+kernel) (by decide+kernel)
theorem gC3:gdP [-1]:=Zlv (d:=-1) rfl (by decide+kernel)
theorem gC4:gdP [0,-2]:=Zlv (d:=-2) rfl (by decide+kernel)
theorem Zf3 {p q:List Rat} (n:Nat) (h:decide ((dvS p q n).2.length< q.length)=true) (g:(List.range (n+1)).all (fun t=>(dvS p q t).1.all (fun c=>decide (qs c≤1048576))&&(dvS p q t).2.all (fun c=>decide (qs c≤1048576)))=true):dvZ p q:=
 ZqW n (of_decide_eq_true h) fun t ht=>by
  have:=List.all_eq_true.1 g t (List.mem_range.2 (by omega))
  rw [Bool.and_eq_true] at this
  exact⟨fun c hc=>of_decide_eq_true (List.all_eq_true.1 this.1 c hc),fun c hc=>of_decide_eq_true (List.all_eq_true.1 this.2 c hc)⟩
theorem dC1:dvZ [1,0,-1] [0,-1]:=Zf3 3 (by decide+kernel) (by decide+kernel)
theorem dC2:dvZ [0,-1] [-1]:=Zf3 3 (by decide+kernel) (by decide+kernel)
theorem eC1:dvF [1,0,-1] [0,-1]=([0,1], [1]):=by decide+kernel
theorem eC2:dvF [0,-1] [-1]=([0,1], []):=by decide+kernel
theorem lC1:lsQ [0,-1]≠0:=by decide+kernel
theorem lC2:lsQ [-1]≠0:=by decide+kernel
def qIa:Nat→AV
 |0=> .val (.one (.full []))
 |_=> .val (.one (.row 49 0))
def qIo:Nat→List (Nat×Ob)
 |0=> []
 |_=> [(49,.row 27 3 0 [rdc (-1)] true)]
def qOa:Nat→AV
 |0=> .val (.one (.d (.list (List.map rdc [0,-2]))))
 |1=> .val (.one (.row 49 0))
 |_=> .val (.one (.full []))
def qOo:Nat→List (Nat×Ob)
 |1=> [(49,.row 27 3 0 [rdc (-1)] true)]
 |_=> []
def CC (t:Nat):List (List Rat):=match t with
 |0=> [[1,0,-1]]
 |1=> [[1,0,-1], [0,-1]]
 |_=> [[1,0,-1], [0,-1], [-1]]
set_option maxHeartbeats 2000000 in
theorem ZeU  :Spec Tryz.prog Tab 114 [.val (.one (.d (.list (List.map rdc ([1,0,-1]:List Rat)))))] (.val (.one (.d (.list (List.map chD ([[1,0,-1], [0,-1], [-1]]:List (List Rat))))))):=by
 have l1:(List.map rdc ([0,-2]:List Rat)).length=2:=rfl
 have l2:(List.map rdc ([1]:List Rat)).length=1:=rfl
 have l3:(List.map rdc ([-1]:List Rat)).length=1:=rfl
 have l4:(List.map chD ([[1,0,-1]]:List (List Rat))).length=1:=rfl
 have l5:(List.map chD ([[1,0,-1], [0,-1]]:List (List Rat))).length=2:=rfl
 have l6:(List.map chD ([[1,0,-1], [0,-1], [-1]]:List (List Rat))).length=3:=rfl
 have l7:(List.map rdc ([]:List Rat)).length=0:=rfl
 have l8:([1]:List Rat).length=1:=rfl
 refine Zcw [10] Tryz.func114 rfl rfl Tryz.ntmps114 rfl (by kernel_rfl) rfl rfl ?_
 refine⟨trivial,?_⟩
 refine ZqG (a:= [0,-2]) zC1 (by decide+kernel) ?_
 refine⟨Nat,fun t=> [(3,.val (.one (.row 10 0))),(4,qOa t)],
  fun t=> [(10,.row 80 1 0 (List.map chD (CC t)) true)]++qOo t,fun t=>t≤2,fun t=>2 - t,0,?_,Nat.zero_le _,fun t hs=> ?_⟩
 ·constructor<;>(repeat' (first|exact rfl|exact True.intro|exact⟨_,_,rfl⟩|exact(by decide)|apply And.intro))
  all_goals first|exact congrArg (fun n:Int=>D.v (.int .i64 n)) (by omega)|exact congrArg (fun n:Int=>D.v (.int .i64 n)) (by rw [wrap64 _ (by omega) (by omega)];omega)|(simp;done)
 rcases (show t=0∨t=1∨t=2 by omega) with rfl|rfl|rfl
 ·refine⟨fun e1=> ?_,fun e1=> ?_⟩
  ·have f15:((List.map rdc ([0,-2]:List Rat)).length:Int) >0:=of_decide_eq_true e1
   refine Zn3 (a:= [0,-1]) zC4 gC4 (by decide+kernel) ?_
   refine⟨⟨row1 rfl,(by show ((List.map chD ([[1,0,-1]]:List (List Rat))).length+1)*24≤_;omega),(by show ((List.map chD ([[1,0,-1]]:List (List Rat))).length+1)≤_;omega)⟩,?_⟩
   refine k_at_own' 0 (by first|rfl|omega|(rw [wrap64 _ (by omega) (by omega)];omega)|(rw [wrap64 _ (by omega) (by omega)];split<;>omega)) (by first|omega|(simp;done)|decide) ?_
   refine Z0 [D.list (List.map rdc ([1,0,-1]:List Rat))] _ rfl rfl rfl ?_
   refine k_at_own' 1 (by first|rfl|omega|(rw [wrap64 _ (by omega) (by omega)];omega)|(rw [wrap64 _ (by omega) (by omega)];split<;>omega)) (by first|omega|(simp;done)|decide) ?_
   refine Z0 [D.list (List.map rdc ([0,-1]:List Rat))] _ rfl rfl rfl ?_
   refine Zob zC1 zC2 (by decide) lC1 dC1 eC1 ?_
   refine⟨by kernel_rfl,?_⟩
   refine⟨_,⟨rfl,rfl,rfl⟩,?_⟩
   refine⟨Nat,fun i=> [(3,.val (.one (.row 10 0))),(4,qIa i),(39,.val (.one (.d (.list (List.map rdc ([1]:List Rat)))))),(40,int ((List.map rdc ([1]:List Rat)).length:Int)),(41,int (i:Int))],
    fun i=> [(10,.row 80 1 0 (List.map chD ([[1,0,-1]]:List (List Rat))++ [[D.list (List.map rdc ([0,-1]:List Rat))]]) true)]++qIo i,fun i=>i≤1,fun i=>1 - i,0,?_,Nat.zero_le _,fun i hs=> ?_⟩
   ·constructor<;>(repeat' (first|exact rfl|exact True.intro|exact⟨_,_,rfl⟩|exact(by decide)|apply And.intro))
    all_goals first|exact congrArg (fun n:Int=>D.v (.int .i64 n)) (by omega)|exact congrArg (fun n:Int=>D.v (.int .i64 n)) (by rw [wrap64 _ (by omega) (by omega)];omega)|(simp;done)
   rcases (show i=0∨i=1 by omega) with rfl|rfl
   ·refine⟨fun e2=> ?_,fun e2=> ?_⟩
    ·have f42:0< ((List.map rdc ([1]:List Rat)).length:Int):=of_decide_eq_true e2
     obtain⟨x43,hx43⟩:∃ vv,([1]:List Rat)[0]? =some vv:=⟨_,List.getElem?_eq_getElem (by first|omega|exact Nat.mod_lt _ (by omega))⟩
     have e43:x43=1:=(Option.some.inj hx43).symm
     have hz43:qs x43≤8:=by rw [e43];decide+kernel
     refine k_ix 0 [D.v (.bool (cn x43).s),D.v (.string (cn x43).a),D.v (.string (cn x43).d)] (by first|rfl|omega|(rw [wrap64 _ (by omega) (by omega)];omega)|(rw [wrap64 _ (by omega) (by omega)];split<;>omega)) (Zj hx43) rfl ?_
     refine ZdG (x:=cn x43) (by simp only [cn_z];omega) fun q47 h47 z47=> ?_
     simp only [cn_z] at z47
     simp only [cn_q] at h47
     have e47:q47=-1:=by rw [h47,e43]
     clear h47
     subst e47
     refine⟨⟨Nat.zero_lt_succ _,(fun r hr=>by simp at hr),row1 rfl,(by show (0+1)*40≤_;omega),(by show 0+1≤_;omega)⟩,?_⟩
     refine⟨1,by omega,by simp only;omega,?_⟩
     constructor<;>(repeat' (first|exact rfl|exact True.intro|apply And.intro))
     all_goals first
      |exact congrArg (fun n:Int=>D.v (.int .i64 n)) (by rw [wrap64 _ (by omega) (by omega)];omega)
      |exact congrArg (fun n:Int=>D.v (.int .i64 n)) (by omega)
    ·have f42:¬ (0< ((List.map rdc ([1]:List Rat)).length:Int)):=of_decide_eq_false e2
     exfalso
     omega
   ·refine⟨fun e3=> ?_,fun e3=> ?_⟩
    ·have f42:1< ((List.map rdc ([1]:List Rat)).length:Int):=of_decide_eq_true e3
     exfalso
     omega
    ·have f42:¬ (1< ((List.map rdc ([1]:List Rat)).length:Int)):=of_decide_eq_false e3
     refine⟨1,by omega,by simp only;omega,?_⟩
     constructor<;>(repeat' (first|exact rfl|exact True.intro|apply And.intro))
     all_goals first
      |exact congrArg (fun n:Int=>D.v (.int .i64 n)) (by rw [wrap64 _ (by omega) (by omega)];omega)
      |exact congrArg (fun n:Int=>D.v (.int .i64 n)) (by omega)
  ·have f15:¬ (((List.map rdc ([0,-2]:List Rat)).length:Int) >0):=of_decide_eq_false e1
   exfalso
   omega
 ·refine⟨fun e4=> ?_,fun e4=> ?_⟩
  ·have f15:((List.map rdc ([-1]:List Rat)).length:Int) >0:=of_decide_eq_true e4
   refine Zn3 (p:= [-1]) (a:= [-1]) zC3 gC3 (by decide+kernel) ?_
   refine⟨⟨row1 rfl,(by show ((List.map chD ([[1,0,-1], [0,-1]]:List (List Rat))).length+1)*24≤_;omega),(by show ((List.map chD ([[1,0,-1], [0,-1]]:List (List Rat))).length+1)≤_;omega)⟩,?_⟩
   refine k_at_own' 1 (by first|rfl|omega|(rw [wrap64 _ (by omega) (by omega)];omega)|(rw [wrap64 _ (by omega) (by omega)];split<;>omega)) (by first|omega|(simp;done)|decide) ?_
   refine Z0 [D.list (List.map rdc ([0,-1]:List Rat))] _ rfl rfl rfl ?_
   refine k_at_own' 2 (by first|rfl|omega|(rw [wrap64 _ (by omega) (by omega)];omega)|(rw [wrap64 _ (by omega) (by omega)];split<;>omega)) (by first|omega|(simp;done)|decide) ?_
   refine Z0 [D.list (List.map rdc ([-1]:List Rat))] _ rfl rfl rfl ?_
   refine Zob zC2 zC3 (by decide) lC2 dC2 eC2 ?_
   refine⟨by kernel_rfl,?_⟩
   refine⟨_,⟨rfl,rfl,rfl⟩,?_⟩
   refine⟨Nat,fun i=> [(3,.val (.one (.row 10 0))),(4,.val (.one (.full ([])))),(39,.val (.one (.d (.list (List.map rdc ([]:List Rat)))))),(40,int ((List.map rdc ([]:List Rat)).length:Int)),(41,int (i:Int))],
    fun i=> [(10,.row 80 1 0 (List.map chD ([[1,0,-1], [0,-1]]:List (List Rat))++ [[D.list (List.map rdc ([-1]:List Rat))]]) true)],fun i=>i=0,fun i=>1 - i,0,?_,rfl,fun i hs=> ?_⟩
   ·constructor<;>(repeat' (first|exact rfl|exact True.intro|exact⟨_,_,rfl⟩|exact(by decide)|apply And.intro))
    all_goals first|exact congrArg (fun n:Int=>D.v (.int .i64 n)) (by omega)|exact congrArg (fun n:Int=>D.v (.int .i64 n)) (by rw [wrap64 _ (by omega) (by omega)];omega)|(simp;done)
   refine⟨fun e5=> ?_,fun e5=> ?_⟩
   ·have f42:(i:Int)< ((List.map rdc ([]:List Rat)).length:Int):=of_decide_eq_true e5
    exfalso
    omega
   ·have f42:¬ ((i:Int)< ((List.map rdc ([]:List Rat)).length:Int)):=of_decide_eq_false e5
    refine⟨2,by omega,by simp only;omega,?_⟩
    constructor<;>(repeat' (first|exact rfl|exact True.intro|apply And.intro))
    all_goals first
     |exact congrArg (fun n:Int=>D.v (.int .i64 n)) (by rw [wrap64 _ (by omega) (by omega)];omega)
     |exact congrArg (fun n:Int=>D.v (.int .i64 n)) (by omega)
  ·have f15:¬ (((List.map rdc ([-1]:List Rat)).length:Int) >0):=of_decide_eq_false e4
   exfalso
   omega
 ·refine⟨fun e6=> ?_,fun e6=> ?_⟩
  ·have f15:(([]).length:Int) >0:=of_decide_eq_true e6
   exfalso
   exact absurd f15 (by decide)
  ·have f15:¬ ((([]).length:Int) >0):=of_decide_eq_false e6
   refine Eq.trans (b:= .val (.one (.d (.list (List.map chD ([[1,0,-1], [0,-1], [-1]]:List (List Rat))))))) ?_ rfl
   rfl
end
end Go.Proofs.YtiekmbmgpachpaaGreatDoor.eng
namespace Go.Proofs.YtiekmbmgpachpaaGreatDoor.eng
open Go.RowKit num mem seg q held ratA ratB ratC ratD ratE vars ratF trq
section
variable {K : AV → Prop}
theorem zP0:zO [-1,0,1]:=Zcr (by decide+kernel) (by decide+kernel)
theorem plP1:plS [-1,0,1] 1=([0,1], [-1]):=by decide+kernel
theorem plP2:plS [-1,0,1] 2=([-1], []):=by decide+kernel
theorem dvP0:dvZ [-1,0,1] [0,2]:=Zf3 3 (by decide+kernel) (by decide+kernel)
theorem dvP1:dvZ [0,1] [-1]:=Zf3 3 (by decide+kernel) (by decide+kernel)
theorem dvP3:dvZ [-1,0,1] [-1]:=Zf3 4 (by decide+kernel) (by decide+kernel)
theorem dvP2:dvZ [-1] []:=fun t=>by
 have e:∀ t,dvS [-1] [] t=([0,0], [-1]):=fun t=>by
  induction t with
  |zero=>decide+kernel
  |succ t ih=>show dvT [] (dvS [-1] [] t)=_;rw [ih];decide+kernel
 rw [e]
 exact⟨fun c hc=>by simp only [List.mem_cons,List.not_mem_nil,or_false] at hc;rcases hc with rfl|rfl<;>decide+kernel,fun c hc=>by simp only [List.mem_cons,List.not_mem_nil,or_false] at hc;subst hc;decide+kernel⟩
theorem plP0:plS [-1,0,1] 0=([-1,0,1], [0,2]):=by decide+kernel
theorem ZpK:zO []:=⟨by decide,fun c hc=>by simp at hc⟩
theorem plZC:plZ [-1,0,1]:=by
 have h2:∀ t,2≤t→plS [-1,0,1] t=([-1], []):=fun t ht=>by rw [ZgS (t:=2) (by rw [plP2]) t ht];exact plP2
 have hF:plF [-1,0,1]=([-1], []):=h2 _ (by decide)
 refine⟨fun t=> ?_,by rw [hF];exact dvP3,by rw [hF];exact Zcr (by decide+kernel) (by decide+kernel)⟩
 rcases (show t=0∨t=1∨2≤t by omega) with rfl|rfl|h
 ·rw [plP0];exact⟨zP0,Zcr (by decide+kernel) (by decide+kernel),dvP0⟩
 ·rw [plP1];exact⟨Zcr (by decide+kernel) (by decide+kernel),zC3,dvP1⟩
 ·rw [h2 t h];exact⟨zC3,ZpK,dvP2⟩
theorem plQC:plQ [-1,0,1]= [1,0,-1]:=by decide+kernel
theorem chZC:chZ [[1,0,-1], [0,-1], [-1]]:=⟨by decide,fun p hp=>by
 simp only [List.mem_cons,List.not_mem_nil,or_false] at hp
 rcases hp with rfl|rfl|rfl
 ·exact zC1
 ·exact zC2
 ·exact zC3⟩
theorem Znc (k:K (.val (.one (.d (.list (List.map rdc [1,0,-1])))))):Ask 115 [.val (.one (.d (.list (List.map rdc [-1,0,1]))))] K:=
 use (Zfa [-1,0,1] (by simp) (Zlv (d:=1) rfl (by decide+kernel)) plZC) rfl (by rw [plQC];exact k)
theorem Zo1 (k:K (.val (.one (.d (.list (List.map rdc [-1,0,1])))))):Ask 113 [.val (.one (.d (.list (List.map rdc [-1,0,1]))))] K:=
 use (ZnH [-1,0,1] zP0) rfl (by rw [show trP [-1,0,1]= [-1,0,1] from by decide+kernel];exact k)
abbrev cH:List (List Rat):= [[1,0,-1], [0,-1], [-1]]
theorem Zlk {x y:Rat} {n:Int} (hx:qs x≤1048576) (hy:qs y≤1048576) (h:ctN cH x y=n) (k:K (int n)):Ask 116 [.val (.one (.d (.list (List.map chD cH)))),pair (cn x) (cn y)] K:=
 Zia chZC (by rw [cn_z];exact hx) (by rw [cn_z];exact hy) (by decide) (cn_q x) (cn_q y) (by rw [h];exact k)
theorem ZoY {x:Rat} (hx:qs x≤1048576) (h:¬ evP ((cH[0]?).getD []) x=0) (k:K (bool false)):Ask 118 [.val (.one (.d (.list (List.map chD cH)))),rat (cn x)] K:=
 Zlf chZC (by rw [cn_z];exact hx) (by decide) (cn_q x) (by rw [decide_eq_false h];exact k)
theorem ZqD {x y m:Rat} (hx:qs x≤1048576) (hy:qs y≤1048576) (h:mdQ x y=m) (k:K (rat (cn m))):Ask 117 [pair (cn x) (cn y)] K:=
 Zh6 (by rw [cn_z];omega) (by rw [cn_z];omega) fun q hq _=>by rw [hq,cn_q,cn_q,h];exact k
theorem hv_l {x y m:Rat} (hm:mdQ x y=m) (h0:¬ evP ((cH[0]?).getD []) m=0) (hc:ctN cH x m=1):hvS cH (cn x) (cn y)=(cn x,cn m):=by
 subst hm
 have e:=ZqP (C:=cH) (x:=cn x) (y:=cn y) (by rw [cn_q,cn_q];exact h0) (by rw [cn_q,cn_q];exact hc)
 rw [cn_q,cn_q] at e;exact e
theorem hv_r {x y m:Rat} (hm:mdQ x y=m) (h0:¬ evP ((cH[0]?).getD []) m=0) (hc:¬ ctN cH x m=1):hvS cH (cn x) (cn y)=(cn m,cn y):=by
 subst hm
 have e:=ZqO (C:=cH) (x:=cn x) (y:=cn y) (by rw [cn_q,cn_q];exact h0) (by rw [cn_q,cn_q];exact hc)
 rw [cn_q,cn_q] at e;exact e
theorem Znd {x y a b:Rat} (hx:qs x≤400000) (hy:qs y≤400000) (h:hvS cH (cn x) (cn y)=(cn a,cn b)) (k:K (pair (cn a) (cn b))):Ask 79 [.val (.one (.d (.list (List.map chD cH)))),pair (cn x) (cn y)] K:=
 use (Zjp cH (cn x) (cn y) chZC (by rw [cn_z];exact hx) (by rw [cn_z];exact hy) (by decide)) rfl (by rw [h];exact k)
def h1:Rat:=-3 / 2
def h2:Rat:=3 / 2
def h3:Rat:=-3 / 4
def h4:Rat:=3 / 4
def RR:Nat→List (RV×RV)
 |0=> [(cn (-3),cn 0),(cn 0,cn 3)]
 |1=> [(cn h1,cn 0),(cn 0,cn h2)]
 |_=> [(cn h1,cn h3),(cn h4,cn h2)]
def msQ:Nat→Rat
 |0=>1
 |1=>2
 |2=>2
 |_=>3
theorem ZgH  :Spec Tryz.prog Tab 76 [.val (.one (.d (.list (List.map rdc ([-1,0,1]:List Rat)))))] (.tup [.one (.d (.list (List.map chD ([[1,0,-1], [0,-1], [-1]]:List (List Rat))))),.one (.d (.v (.int .i64 (0))))]):=by
 have l1:(List.map rdc ([-1,0,1]:List Rat)).length=3:=rfl
 refine Zd Tryz.func76 rfl rfl Tryz.ntmps76 rfl (by kernel_rfl) rfl rfl ?_
 refine Zo1 ?_
 refine⟨fun e1=> ?_,fun e1=> ?_⟩
 ·have f6:((List.map rdc ([-1,0,1]:List Rat)).length:Int)=0:=ZaN e1
  exfalso
  omega
 ·have f6:¬ (((List.map rdc ([-1,0,1]:List Rat)).length:Int)=0):=ZaO e1
  refine⟨fun e2=> ?_,fun e2=> ?_⟩
  ·have f10:((List.map rdc ([-1,0,1]:List Rat)).length:Int) >13:=of_decide_eq_true e2
   exfalso
   omega
  ·have f10:¬ (((List.map rdc ([-1,0,1]:List Rat)).length:Int) >13):=of_decide_eq_false e2
   refine Znc ?_
   refine use ZeU rfl ?_
   refine Eq.trans (b:= .tup [.one (.d (.list (List.map chD ([[1,0,-1], [0,-1], [-1]]:List (List Rat))))),.one (.d (.v (.int .i64 (0))))]) ?_ rfl
   rfl
theorem Zgn  :SpecR Tryz.prog Tab 78 [.val (.one (.d (.list (List.map chD ([[1,0,-1], [0,-1], [-1]]:List (List Rat)))))),.val (.one (.d (.v (.slice none 0 0)))),pair (cn (-3)) (cn 0)] 31 6 (List.map rdv [(cn (-3),cn 0)]):=by
 refine ZlE Tryz.func78 rfl rfl Tryz.ntmps78 rfl (by kernel_rfl) rfl rfl ?_
 refine Zlk (n:=1) (by decide+kernel) (by decide+kernel) (by decide+kernel) ?_
 refine⟨fun e=>absurd e (by decide),fun _=> ?_⟩
 refine⟨fun _=> ?_,fun e=>absurd e (by decide)⟩
 refine⟨⟨row1 rfl,(by show 1*80≤_;omega),(by show 1≤_;omega)⟩,?_⟩
 exact rfl
theorem Zmp  :SpecT Tryz.prog Tab 78 [.val (.one (.d (.list (List.map chD ([[1,0,-1], [0,-1], [-1]]:List (List Rat)))))),.val (.one (.row 1000 0)),pair (cn 0) (cn 3)] 31 6 (List.map rdv [(cn (-3),cn 0)]) 31 6 (List.map rdv [(cn (-3),cn 0),(cn 0,cn 3)]):=by
 have l1:(List.map rdv [(cn (-3),cn 0)]).length=1:=rfl
 refine fn_T [] Tryz.func78 rfl rfl Tryz.ntmps78 rfl (by kernel_rfl) rfl rfl ?_
 refine Zlk (n:=1) (by decide+kernel) (by decide+kernel) (by decide+kernel) ?_
 refine⟨fun e=>absurd e (by decide),fun _=> ?_⟩
 refine⟨fun _=> ?_,fun e=>absurd e (by decide)⟩
 refine⟨⟨row1 rfl,(by show ((List.map rdv [(cn (-3),cn 0)]).length+1)*80≤_;omega),(by show ((List.map rdv [(cn (-3),cn 0)]).length+1)≤_;omega)⟩,?_⟩
 exact rfl
theorem Zgm  :SpecR Tryz.prog Tab 78 [.val (.one (.d (.list (List.map chD ([[1,0,-1], [0,-1], [-1]]:List (List Rat)))))),.val (.one (.d (.v (.slice none 0 0)))),pair (cn (-3)) (cn 3)] 31 6 (List.map rdv [(cn (-3),cn 0),(cn 0,cn 3)]):=by
 refine Zg4 [38,43] Tryz.func78 rfl rfl Tryz.ntmps78 rfl (by kernel_rfl) rfl rfl ?_
 refine Zlk (n:=2) (by decide+kernel) (by decide+kernel) (by decide+kernel) ?_
 refine⟨fun e=>absurd e (by decide),fun _=> ?_⟩
 refine⟨fun e=>absurd e (by decide),fun _=> ?_⟩
 refine ZqD (m:=0) (by decide+kernel) (by decide+kernel) (by decide+kernel) ?_
 refine ZoY (by decide+kernel) (by decide+kernel) ?_
 refine⟨fun _=> ?_,fun e=>absurd e (by decide)⟩
 refine useN Zgn ?_
 refine⟨_,_,_,Zmp,?_⟩
 refine⟨by kernel_rfl,?_⟩
 exact rfl
end
end Go.Proofs.YtiekmbmgpachpaaGreatDoor.eng
namespace Go.Proofs.YtiekmbmgpachpaaGreatDoor.eng
open Go.RowKit num mem seg q held ratA ratB ratC ratD ratE vars ratF trq
section
variable {K : AV → Prop}
theorem ZoU {i:Nat} {x:Rat} (h:([1,0,-1]:List Rat)[i]? =some x):msQ i+absV x=msQ (i+1):=by
 rcases i with _|_|_|i
 ·obtain rfl:(1:Rat)=x:=Option.some.inj h
  decide+kernel
 ·obtain rfl:(0:Rat)=x:=Option.some.inj h
  decide+kernel
 ·obtain rfl:(-1:Rat)=x:=Option.some.inj h
  decide+kernel
 ·simp at h
theorem ms_z:∀ i,qs (msQ i)≤100
 |0=>by decide+kernel
 |1=>by decide+kernel
 |2=>by decide+kernel
 |_+3=>by show qs (3:Rat)≤100;decide+kernel
set_option maxHeartbeats 4000000 in
theorem ZgG  :Spec Tryz.prog Tab 36 [.val (.one (.d (.list (List.map rdc ([-1,0,1]:List Rat)))))] (.tup [.one (.d (.list (List.map rdv (RR 2)))),.one (.d (.v (.int .i64 (0))))]):=by
 have l1:(List.map rdc ([1,0,-1]:List Rat)).length=3:=rfl
 have l2:([1,0,-1]:List Rat).length=3:=rfl
 have l3:∀ k,(List.map rdv (RR k)).length=2:=fun k=>by rcases k with _|_|k<;>rfl
 have l4:=l3 0
 have l5:=l3 1
 have l6:=l3 2
 have r0:(RR 0).length=2:=rfl
 have r1:(RR 1).length=2:=rfl
 have r2:(RR 2).length=2:=rfl
 refine Zcw [38] Tryz.func36 rfl rfl Tryz.ntmps36 rfl (by kernel_rfl) rfl rfl ?_
 refine use ZgH rfl ?_
 refine⟨fun e=>absurd e (by decide),fun _=> ?_⟩
 refine k_of (1) (by omega) (by omega) fun q19 h19 z19=> ?_
 simp only [cn_z] at z19
 refine k_ix 0 [D.list (List.map rdc ([1,0,-1]:List Rat))] (by first|rfl|omega|(rw [wrap64 _ (by omega) (by omega)];omega)|(rw [wrap64 _ (by omega) (by omega)];split<;>omega)) rfl rfl ?_
 have e19:q19=msQ 0:=h19
 refine⟨Nat,fun i=> [(4,.val (.one (.d (.list (List.map chD ([[1,0,-1], [0,-1], [-1]]:List (List Rat))))))),(6,.val (.one (.ptr 6 0))),(22,.val (.one (.d (.list (List.map rdc ([1,0,-1]:List Rat)))))),(23,int ((List.map rdc ([1,0,-1]:List Rat)).length:Int)),(24,int (i:Int))],
  fun i=> [(6,.var 27 [.d (.v (.bool (cn (msQ i)).s)),.d (.v (.string (cn (msQ i)).a)),.d (.v (.string (cn (msQ i)).d))])],fun i=>i≤3,fun i=>3 - i,0,?_,Nat.zero_le _,fun i hs=> ?_⟩
 ·constructor<;>(repeat' (first|exact rfl|exact True.intro|exact⟨_,_,rfl⟩|exact(by decide)|apply And.intro))
  all_goals first
   |exact congrArg (fun q:Rat=>D.v (.bool (cn q).s)) e19
   |exact congrArg (fun q:Rat=>D.v (.bool (cn q).s)) e19.symm
   |exact congrArg (fun q:Rat=>D.v (.string (cn q).a)) e19
   |exact congrArg (fun q:Rat=>D.v (.string (cn q).a)) e19.symm
   |exact congrArg (fun q:Rat=>D.v (.string (cn q).d)) e19
   |exact congrArg (fun q:Rat=>D.v (.string (cn q).d)) e19.symm
   |exact congrArg (fun n:Int=>D.v (.int .i64 n)) (by omega)
   |(simp;done)
 have hmz:=ms_z i
 refine⟨fun e1=> ?_,fun e1=> ?_⟩
 ·have f25:(i:Int)< ((List.map rdc ([1,0,-1]:List Rat)).length:Int):=of_decide_eq_true e1
  obtain⟨x26,hx26⟩:∃ vv,([1,0,-1]:List Rat)[i]? =some vv:=⟨_,List.getElem?_eq_getElem (by first|omega|exact Nat.mod_lt _ (by omega))⟩
  have hzx26:qs x26≤8:=by
   have:=List.mem_of_getElem? hx26
   simp only [List.mem_cons,List.not_mem_nil,or_false] at this
   rcases this with rfl|rfl|rfl<;>decide+kernel
  refine k_ix i [D.v (.bool (cn x26).s),D.v (.string (cn x26).a),D.v (.string (cn x26).d)] (by first|rfl|omega|(rw [wrap64 _ (by omega) (by omega)];omega)|(rw [wrap64 _ (by omega) (by omega)];split<;>omega)) (Zj hx26) rfl ?_
  refine Zoc (x:=cn x26) (by simp only [cn_z];omega) fun q30 h30 z30=> ?_
  simp only [cn_z] at z30
  simp only [cn_q] at h30
  refine Zcj (x:=cn (msQ i)) (y:=cn q30) (by simp only [cn_z];omega) (by simp only [cn_z];omega) fun q31 h31 z31=> ?_
  simp only [cn_z] at z31
  simp only [cn_q] at h31
  refine⟨by kernel_rfl,?_⟩
  have e31:q31=msQ (i+1):=by rw [h31,h30,ZoU hx26]
  refine⟨i+1,by omega,by simp only;omega,?_⟩
  constructor<;>(repeat' (first|exact rfl|exact True.intro|apply And.intro))
  all_goals first
   |exact congrArg (fun q:Rat=>D.v (.bool (cn q).s)) e31
   |exact congrArg (fun q:Rat=>D.v (.bool (cn q).s)) e31.symm
   |exact congrArg (fun q:Rat=>D.v (.string (cn q).a)) e31
   |exact congrArg (fun q:Rat=>D.v (.string (cn q).a)) e31.symm
   |exact congrArg (fun q:Rat=>D.v (.string (cn q).d)) e31
   |exact congrArg (fun q:Rat=>D.v (.string (cn q).d)) e31.symm
   |exact congrArg (fun n:Int=>D.v (.int .i64 n)) (by rw [wrap64 _ (by omega) (by omega)];omega)
   |exact congrArg (fun n:Int=>D.v (.int .i64 n)) (by omega)
 ·have f25:¬ ((i:Int)< ((List.map rdc ([1,0,-1]:List Rat)).length:Int)):=of_decide_eq_false e1
  refine ZdG (x:=cn (msQ i)) (by simp only [cn_z];omega) fun q35 h35 z35=> ?_
  simp only [cn_z] at z35
  simp only [cn_q] at h35
  obtain rfl:i=3:=by omega
  have e35:q35=-3:=h35
  clear h35
  subst e35
  refine useN Zgm ?_
  refine⟨by kernel_rfl,?_⟩
  refine⟨Nat,fun j=> [(4,.val (.one (.d (.list (List.map chD ([[1,0,-1], [0,-1], [-1]]:List (List Rat))))))),(9,.val (.one (.row 38 0))),(10,int ((j:Int)+1))],
   fun j=> [(38,.row 31 6 0 (List.map rdv (RR (2*j))) true)],fun j=>j≤1,fun j=>1 - j,0,?_,Nat.zero_le _,fun j hs=> ?_⟩
  ·constructor<;>(repeat' (first|exact rfl|exact True.intro|exact⟨_,_,rfl⟩|exact(by decide)|apply And.intro))
   all_goals first|exact congrArg (fun n:Int=>D.v (.int .i64 n)) (by omega)|exact congrArg (fun n:Int=>D.v (.int .i64 n)) (by rw [wrap64 _ (by omega) (by omega)];omega)|(simp;done)
  rcases (show j=0∨j=1 by omega) with rfl|rfl
  ·refine⟨fun e2=> ?_,fun e2=> ?_⟩
   ·have f42:1< ((List.map rdv (RR 0)).length:Int):=of_decide_eq_true e2
    refine⟨Nat,fun k=> [(4,.val (.one (.d (.list (List.map chD ([[1,0,-1], [0,-1], [-1]]:List (List Rat))))))),(9,.val (.one (.row 38 0))),(10,int 1)],
     fun k=> [(38,.row 31 6 0 (List.map rdv (RR k)) true)],fun k=>k≤2,fun k=>2 - k,0,?_,Nat.zero_le _,fun k hs=> ?_⟩
    ·constructor<;>(repeat' (first|exact rfl|exact True.intro|exact⟨_,_,rfl⟩|exact(by decide)|apply And.intro))
     all_goals first|exact congrArg (fun n:Int=>D.v (.int .i64 n)) (by omega)|exact congrArg (fun n:Int=>D.v (.int .i64 n)) (by rw [wrap64 _ (by omega) (by omega)];omega)|(simp;done)
    rcases (show k=0∨k=1∨k=2 by omega) with rfl|rfl|rfl
    ·refine k_at_own' 0 (by first|rfl|omega|(rw [wrap64 _ (by omega) (by omega)];omega)|(rw [wrap64 _ (by omega) (by omega)];split<;>omega)) (by first|omega|(simp;done)|decide) ?_
     refine Z0 [D.v (.bool (cn (-3)).s),D.v (.string (cn (-3)).a),D.v (.string (cn (-3)).d),D.v (.bool (cn 0).s),D.v (.string (cn 0).a),D.v (.string (cn 0).d)] _ rfl rfl rfl ?_
     refine k_at_own' 1 (by first|rfl|omega|(rw [wrap64 _ (by omega) (by omega)];omega)|(rw [wrap64 _ (by omega) (by omega)];split<;>omega)) (by first|omega|(simp;done)|decide) ?_
     refine Z0 [D.v (.bool (cn 0).s),D.v (.string (cn 0).a),D.v (.string (cn 0).d),D.v (.bool (cn 3).s),D.v (.string (cn 3).a),D.v (.string (cn 3).d)] _ rfl rfl rfl ?_
     refine Zbu (x:=cn 0) (y:=cn 0) (by rw [cn_z];decide+kernel) (by rw [cn_z];decide+kernel) fun n56 h56=> ?_
     obtain rfl:n56=0:=by rw [h56];simp only [cn_q];decide+kernel
     refine⟨by kernel_rfl,?_⟩
     refine⟨fun _=> ?_,fun e=>absurd e (by decide)⟩
     refine k_at_own' 0 (by first|rfl|omega|(rw [wrap64 _ (by omega) (by omega)];omega)|(rw [wrap64 _ (by omega) (by omega)];split<;>omega)) (by first|omega|(simp;done)|decide) ?_
     refine Z0 [D.v (.bool (cn (-3)).s),D.v (.string (cn (-3)).a),D.v (.string (cn (-3)).d),D.v (.bool (cn 0).s),D.v (.string (cn 0).a),D.v (.string (cn 0).d)] _ rfl rfl rfl ?_
     refine Znd (a:=h1) (b:=0) (by decide+kernel) (by decide+kernel) (hv_r (by decide+kernel) (by decide+kernel) (by decide+kernel)) ?_
     refine k_at_own' 1 (by first|rfl|omega|(rw [wrap64 _ (by omega) (by omega)];omega)|(rw [wrap64 _ (by omega) (by omega)];split<;>omega)) (by first|omega|(simp;done)|decide) ?_
     refine Z0 [D.v (.bool (cn 0).s),D.v (.string (cn 0).a),D.v (.string (cn 0).d),D.v (.bool (cn 3).s),D.v (.string (cn 3).a),D.v (.string (cn 3).d)] _ rfl rfl rfl ?_
     refine Znd (a:=0) (b:=h2) (by decide+kernel) (by decide+kernel) (hv_l (by decide+kernel) (by decide+kernel) (by decide+kernel)) ?_
     refine k_at_own' 0 (by first|rfl|omega|(rw [wrap64 _ (by omega) (by omega)];omega)|(rw [wrap64 _ (by omega) (by omega)];split<;>omega)) (by first|omega|(simp;done)|decide) ?_
     refine⟨by first|omega|(simp;omega),?_⟩
     refine k_at_own' 1 (by first|rfl|omega|(rw [wrap64 _ (by omega) (by omega)];omega)|(rw [wrap64 _ (by omega) (by omega)];split<;>omega)) (by first|omega|(simp;done)|decide) ?_
     refine⟨by first|omega|(simp;omega),?_⟩
     refine⟨by kernel_rfl,?_⟩
     refine⟨1,by omega,by simp only;omega,?_⟩
     constructor<;>(repeat' (first|exact rfl|exact True.intro|apply And.intro))
     all_goals first
      |exact congrArg (fun n:Int=>D.v (.int .i64 n)) (by rw [wrap64 _ (by omega) (by omega)];omega)
      |exact congrArg (fun n:Int=>D.v (.int .i64 n)) (by omega)
    ·refine k_at_own' 0 (by first|rfl|omega|(rw [wrap64 _ (by omega) (by omega)];omega)|(rw [wrap64 _ (by omega) (by omega)];split<;>omega)) (by first|omega|(simp;done)|decide) ?_
     refine Z0 [D.v (.bool (cn h1).s),D.v (.string (cn h1).a),D.v (.string (cn h1).d),D.v (.bool (cn 0).s),D.v (.string (cn 0).a),D.v (.string (cn 0).d)] _ rfl rfl rfl ?_
     refine k_at_own' 1 (by first|rfl|omega|(rw [wrap64 _ (by omega) (by omega)];omega)|(rw [wrap64 _ (by omega) (by omega)];split<;>omega)) (by first|omega|(simp;done)|decide) ?_
     refine Z0 [D.v (.bool (cn 0).s),D.v (.string (cn 0).a),D.v (.string (cn 0).d),D.v (.bool (cn h2).s),D.v (.string (cn h2).a),D.v (.string (cn h2).d)] _ rfl rfl rfl ?_
     refine Zbu (x:=cn 0) (y:=cn 0) (by rw [cn_z];decide+kernel) (by rw [cn_z];decide+kernel) fun n56 h56=> ?_
     obtain rfl:n56=0:=by rw [h56];simp only [cn_q];decide+kernel
     refine⟨by kernel_rfl,?_⟩
     refine⟨fun _=> ?_,fun e=>absurd e (by decide)⟩
     refine k_at_own' 0 (by first|rfl|omega|(rw [wrap64 _ (by omega) (by omega)];omega)|(rw [wrap64 _ (by omega) (by omega)];split<;>omega)) (by first|omega|(simp;done)|decide) ?_
     refine Z0 [D.v (.bool (cn h1).s),D.v (.string (cn h1).a),D.v (.string (cn h1).d),D.v (.bool (cn 0).s),D.v (.string (cn 0).a),D.v (.string (cn 0).d)] _ rfl rfl rfl ?_
     refine Znd (a:=h1) (b:=h3) (by decide+kernel) (by decide+kernel) (hv_l (by decide+kernel) (by decide+kernel) (by decide+kernel)) ?_
     refine k_at_own' 1 (by first|rfl|omega|(rw [wrap64 _ (by omega) (by omega)];omega)|(rw [wrap64 _ (by omega) (by omega)];split<;>omega)) (by first|omega|(simp;done)|decide) ?_
     refine Z0 [D.v (.bool (cn 0).s),D.v (.string (cn 0).a),D.v (.string (cn 0).d),D.v (.bool (cn h2).s),D.v (.string (cn h2).a),D.v (.string (cn h2).d)] _ rfl rfl rfl ?_
     refine Znd (a:=h4) (b:=h2) (by decide+kernel) (by decide+kernel) (hv_r (by decide+kernel) (by decide+kernel) (by decide+kernel)) ?_
     refine k_at_own' 0 (by first|rfl|omega|(rw [wrap64 _ (by omega) (by omega)];omega)|(rw [wrap64 _ (by omega) (by omega)];split<;>omega)) (by first|omega|(simp;done)|decide) ?_
     refine⟨by first|omega|(simp;omega),?_⟩
     refine k_at_own' 1 (by first|rfl|omega|(rw [wrap64 _ (by omega) (by omega)];omega)|(rw [wrap64 _ (by omega) (by omega)];split<;>omega)) (by first|omega|(simp;done)|decide) ?_
     refine⟨by first|omega|(simp;omega),?_⟩
     refine⟨by kernel_rfl,?_⟩
     refine⟨2,by omega,by simp only;omega,?_⟩
     constructor<;>(repeat' (first|exact rfl|exact True.intro|apply And.intro))
     all_goals first
      |exact congrArg (fun n:Int=>D.v (.int .i64 n)) (by rw [wrap64 _ (by omega) (by omega)];omega)
      |exact congrArg (fun n:Int=>D.v (.int .i64 n)) (by omega)
    ·refine k_at_own' 0 (by first|rfl|omega|(rw [wrap64 _ (by omega) (by omega)];omega)|(rw [wrap64 _ (by omega) (by omega)];split<;>omega)) (by first|omega|(simp;done)|decide) ?_
     refine Z0 [D.v (.bool (cn h1).s),D.v (.string (cn h1).a),D.v (.string (cn h1).d),D.v (.bool (cn h3).s),D.v (.string (cn h3).a),D.v (.string (cn h3).d)] _ rfl rfl rfl ?_
     refine k_at_own' 1 (by first|rfl|omega|(rw [wrap64 _ (by omega) (by omega)];omega)|(rw [wrap64 _ (by omega) (by omega)];split<;>omega)) (by first|omega|(simp;done)|decide) ?_
     refine Z0 [D.v (.bool (cn h4).s),D.v (.string (cn h4).a),D.v (.string (cn h4).d),D.v (.bool (cn h2).s),D.v (.string (cn h2).a),D.v (.string (cn h2).d)] _ rfl rfl rfl ?_
     refine Zbu (x:=cn h3) (y:=cn h4) (by rw [cn_z];decide+kernel) (by rw [cn_z];decide+kernel) fun n56 h56=> ?_
     obtain rfl:n56=(-1):=by rw [h56];simp only [cn_q];decide+kernel
     refine⟨by kernel_rfl,?_⟩
     refine⟨fun e=>absurd e (by decide),fun _=> ?_⟩
     refine⟨1,by omega,by simp only;omega,?_⟩
     constructor<;>(repeat' (first|exact rfl|exact True.intro|apply And.intro))
     all_goals first
      |exact congrArg (fun n:Int=>D.v (.int .i64 n)) (by rw [wrap64 _ (by omega) (by omega)];omega)
      |exact congrArg (fun n:Int=>D.v (.int .i64 n)) (by omega)
   ·have f42:¬ (1< ((List.map rdv (RR 0)).length:Int)):=of_decide_eq_false e2
    exfalso
    omega
  ·refine⟨fun e3=> ?_,fun e3=> ?_⟩
   ·have f42:2< ((List.map rdv (RR 2)).length:Int):=of_decide_eq_true e3
    exfalso
    omega
   ·have f42:¬ (2< ((List.map rdv (RR 2)).length:Int)):=of_decide_eq_false e3
    refine Eq.trans (b:= .tup [.one (.d (.list (List.map rdv (RR 2)))),.one (.d (.v (.int .i64 (0))))]) ?_ rfl
    rfl
end
end Go.Proofs.YtiekmbmgpachpaaGreatDoor.eng
