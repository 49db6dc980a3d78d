/- Joined by wip/bundle.py: XFnO XStuA XStuB XStuC XStuD XStuE XStuF XStuG. -/
import Derived.Test.YtgkofgfiifgioaaGreatDoorQGrpL
set_option maxHeartbeats 8000000
set_option maxRecDepth 100000
namespace Go.Proofs.YtgkofgfiifgioaaGreatDoor.eng
open Go.RowKit num mem seg q held ratA ratB ratC ratD ratE vars ratF
theorem Zdz (own : List Nat) {f : FuncId} {fn : Func} {c : Code} {nt : Nat} (hf : Tryz.prog.funcs[f]? = some fn) (hb : fn.body = some c) (hn : (fn.name == "runtime.NumGoroutine") = false) (hnt : fn.ntmps = nt) {rs : List ResultVar} (hrs : fn.results = ⟨rs⟩)
  (hc:codeOk c=true) {args:List AV} {T n:Nat} {xs:List (List D)} (hargs:freeAVs args=true) (hlen:Nat.ble args.length nt=true)
  (h:sp (prmOwn Tryz.prog nt own) c (RetNew rs T n xs) (envArgs 0 args) noMem):SpecR Tryz.prog Tab f args T n xs:=
 Zh0 (p:=prmOwn Tryz.prog nt own) hf hb hn hnt rfl rfl hrs Zgz (fun _ _ h hb=>h.below hb (Nat.le_refl _)) mixed hc hargs hlen h
open trq
section
variable {K : AV → Prop}
theorem ZmJ {q:Rat} (h:q≠0):absV q≠0:=by unfold absV;split<;>grind
def evQ:List RV→Rat→Rat
 | [],_=>0
 |a :: l,x=>evQ l x*x+a.q
theorem Zn1 {P:List RV} {i:Nat} {y:RV} (h:P[i]? =some y) (x:Rat):evQ (P.drop i) x=evQ (P.drop (i+1)) x*x+y.q:=by
 have hi:=(List.getElem?_eq_some_iff.1 h).1
 rw [List.drop_eq_getElem_cons hi,show P[i]=y from(List.getElem?_eq_some_iff.1 h).2];rfl
theorem ZqF {x:RV} {B:Nat} (hx:x.z≤B):∀ (l:List RV),(∀ y,y∈l→y.z≤B)→qs (evQ l x.q)≤8+l.length*(2*B+4)
 | [],_=>by
   have:qs (0:Rat)≤8:=by decide+kernel
   exact Nat.le_trans this (Nat.le_add_right _ _)
 |a :: l,h=>by
  have ih:=ZqF hx l fun y hy=>h y (List.mem_cons_of_mem _ hy)
  have ha:=h a List.mem_cons_self
  have h1:=Z2 (evQ l x.q) x.q
  have h2:=ZaF (evQ l x.q*x.q) a.q
  have:=x.z1
  have:=a.z1
  show qs (evQ l x.q*x.q+a.q)≤_
  rw [List.length_cons,Nat.add_mul,Nat.one_mul]
  omega
theorem Zlj {n:Nat} (h:n≤1048576):n*2097156≤2199027449856:=Nat.le_trans (Nat.mul_le_mul_right _ h) ωd
theorem ZjY (P:List RV) (x:RV) (hP:P.length≤1048576∧∀ y,y∈P→y.z≤1048576) (hx:x.z≤1048576):Spec Tryz.prog Tab 25 [.val (.one (.d (.list (List.map rd P)))),rat x] (rat (cn (evQ P x.q))):=by
 have hL:(List.map rd P).length=P.length:=List.length_map ..
 have hP1:=hP.1
 have hx1:=x.z1
 refine Zh Tryz.func25 rfl rfl Tryz.ntmps25 rfl ωr rfl rfl ?_
 refine k_of (0) ω ω fun q7 h7 z7=> ?_
 simp only [cn_z] at z7
 have e7:q7=evQ (P.drop P.length) x.q:=by rw [List.drop_length];exact h7
 refine⟨Nat,fun j=> [(0,.val (.one (.d (.list (List.map rd P))))),(3,.val (.one (.ptr 3 0))),(4,.val (.one (.ptr 4 0))),(5,.val (.one (.ptr 5 0))),(6,int ((j:Int) - 1))],
  fun j=> [(3,.var 25 [.d (.v (.bool x.s)),.d (.v (.string x.a)),.d (.v (.string x.d))]),(4,.var 25 [.d (.v (.bool z0.s)),.d (.v (.string z0.a)),.d (.v (.string z0.d))]),(5,.var 25 [.d (.v (.bool (cn (evQ (P.drop j) x.q)).s)),.d (.v (.string (cn (evQ (P.drop j) x.q)).a)),.d (.v (.string (cn (evQ (P.drop j) x.q)).d))])],fun j=>j≤P.length,fun j=>j,P.length,?_,Nat.le_refl _,fun j hs=> ?_⟩
 ·constructor<;>(repeat' (first|exact rfl|exact True.intro|exact⟨_,_,rfl⟩|exact ωd|apply And.intro))
  all_goals first
   |exact congrArg (fun q:Rat=>D.v (.bool (cn q).s)) e7
   |exact congrArg (fun q:Rat=>D.v (.bool (cn q).s)) e7.symm
   |exact congrArg (fun q:Rat=>D.v (.string (cn q).a)) e7
   |exact congrArg (fun q:Rat=>D.v (.string (cn q).a)) e7.symm
   |exact congrArg (fun q:Rat=>D.v (.string (cn q).d)) e7
   |exact congrArg (fun q:Rat=>D.v (.string (cn q).d)) e7.symm
   |exact ωb
   |exact ωa
   |(simp;done)
 have hb:=ZqF (B:=1048576) hx (P.drop j) fun y hy=>hP.2 y (List.mem_of_mem_drop hy)
 rw [List.length_drop] at hb
 have hm:=Zlj (n:=P.length - j) ω
 refine⟨fun e1=> ?_,fun e1=> ?_⟩
 ·have f12:(j:Int) - 1≥0:=of_decide_eq_true e1
  refine Za8 (x:=cn (evQ (P.drop j) x.q)) (y:=x) ωz ω fun q17 h17 z17=> ?_
  simp only [cn_z] at z17
  simp only [cn_q] at h17
  obtain⟨x20,hx20⟩:∃ vv,P[(j - 1)]? =some vv:=⟨_,List.getElem?_eq_getElem ωm⟩
  have hzx20:=hP.2 x20 (List.mem_of_getElem? hx20)
  refine k_ix (j - 1) [D.v (.bool x20.s),D.v (.string x20.a),D.v (.string x20.d)] ωf (Zl hx20) rfl ?_
  refine Za9 (x:=cn q17) (y:=x20) ωz ω fun q22 h22 z22=> ?_
  simp only [cn_z] at z22
  simp only [cn_q] at h22
  refine⟨ωr,?_⟩
  have e22:q22=evQ (P.drop (j - 1)) x.q:=by rw [Zn1 hx20,h22,h17,show j - 1+1=j from by omega]
  refine⟨j - 1,ω,by simp only;omega,?_⟩
  constructor<;>(repeat' (first|exact rfl|exact True.intro|apply And.intro))
  all_goals first
   |exact congrArg (fun q:Rat=>D.v (.bool (cn q).s)) e22
   |exact congrArg (fun q:Rat=>D.v (.bool (cn q).s)) e22.symm
   |exact congrArg (fun q:Rat=>D.v (.string (cn q).a)) e22
   |exact congrArg (fun q:Rat=>D.v (.string (cn q).a)) e22.symm
   |exact congrArg (fun q:Rat=>D.v (.string (cn q).d)) e22
   |exact congrArg (fun q:Rat=>D.v (.string (cn q).d)) e22.symm
   |exact ωb
   |exact ωb
   |exact ωa
 ·have f12:¬ ((j:Int) - 1≥0):=of_decide_eq_false e1
  refine Eq.trans (b:=rat (cn (evQ (P.drop j) x.q))) ?_ rfl
  obtain rfl:j=0:=ω
  rw [List.drop_zero]
  all_goals rfl
theorem Zqr {P:List RV} {x:RV} (hP:P.length≤1048576∧∀ y,y∈P→y.z≤1048576) (hx:x.z≤1048576) (k:∀ q,q=evQ P x.q→K (rat (cn q))):Ask 25 [.val (.one (.d (.list (List.map rd P)))),rat x] K:=use (ZjY P x hP hx) rfl (k _ rfl)
def tlQ (P:List RV) (n:Nat):List Rat:=(P.take n).map RV.q
theorem Zcj {P:List RV} {n:Nat} (h:n≤P.length):(tlQ P n).length=n:=by unfold tlQ;rw [List.length_map,List.length_take,Nat.min_eq_left h]
theorem ZhU {P:List RV} {n i:Nat} {y:RV} (h:P[i]? =some y) (hi:i< n):(tlQ P n)[i]? =some y.q:=by unfold tlQ;rw [List.getElem?_map,List.getElem?_take_of_lt hi,h];rfl
def trN:List RV→Nat
 | []=>0
 |a :: l=>if trN l=0 then (if a.q=0 then 0 else 1) else trN l+1
theorem ZhS:∀ P:List RV,trN P≤P.length
 | []=>Nat.le_refl _
 |a :: l=>by
  have ih:=ZhS l
  unfold trN
  rw [List.length_cons]
  split
  ·split<;>omega
  ·omega
theorem Zdb:∀ (P:List RV) (n:Nat),n≤P.length→(∀ (j:Nat) (y:RV),n≤j→P[j]? =some y→y.q=0)→(n=0∨∃ y:RV,P[n - 1]? =some y∧y.q≠0)→trN P=n
 | [],n,h,_,_=>by
  have:n=0:=by simpa using h
  subst this;rfl
 |a :: l,n,h,hz,hn=>by
  cases n with
  |zero=>
   have hl:trN l=0:=Zdb l 0 (Nat.zero_le _) (fun j y _ hj=>hz (j+1) y (Nat.zero_le _) (by simpa using hj)) (.inl rfl)
   unfold trN
   rw [if_pos hl,if_pos (hz 0 a (Nat.le_refl _) rfl)]
  |succ m=>
   rcases hn with hn|⟨y,hy,hq⟩
   ·omega
   ·have hl:trN l=m:=by
     refine Zdb l m (by simpa using h) (fun j y hj hy=>hz (j+1) y ω (by simpa using hy)) ?_
     cases m with
     |zero=>exact .inl rfl
     |succ k=>exact .inr ⟨y,by simpa using hy,hq⟩
    unfold trN
    rw [hl]
    cases m with
    |zero=>
     have:a=y:=Option.some.inj (by simpa using hy)
     rw [if_pos rfl,if_neg (by rw [this];exact hq)]
    |succ k=>rw [if_neg ω]
def trQ (P:List RV):List Rat:=tlQ P (trN P)
def flQ (l:List Rat) (i:Nat):List (List D):=List.map rdc (l.take i)++List.replicate (l.length - i) (rd z0)
theorem Zga (l:List Rat) {n:Nat} (h:l.length=n):List.replicate ((n:Int)).toNat (rd z0)=flQ l 0:=by subst h;rfl
theorem Zbh (l:List Rat) {i:Nat} (h:i≤l.length):(flQ l i).length=l.length:=by unfold flQ;rw [List.length_append,List.length_map,List.length_take,List.length_replicate];omega
theorem Zbg {l:List Rat} {i:Nat} {q:Rat} (h:l[i]? =some q):(flQ l i).set i (rdc q)=flQ l (i+1):=by
 have hi:=(List.getElem?_eq_some_iff.1 h).1
 have hl:(List.map rdc (l.take i)).length=i:=by rw [List.length_map,List.length_take];omega
 unfold flQ
 rw [List.set_append,hl,if_neg (Nat.lt_irrefl _),Nat.sub_self,show l.length - i=(l.length - (i+1))+1 by omega,List.replicate_succ,List.set_cons_zero,List.take_add_one,h,List.map_append,List.append_assoc]
 rfl
theorem Zbi (l:List Rat):flQ l l.length=List.map rdc l:=by unfold flQ;rw [List.take_length,Nat.sub_self];simp
theorem ZgD (P:List RV) (hP:P.length≤1048576∧∀ y,y∈P→y.z≤1048576):SpecR Tryz.prog Tab 119 [.val (.one (.d (.list (List.map rd P))))] 25 3 (List.map rdc (trQ P)):=by
 have hL:(List.map rd P).length=P.length:=List.length_map ..
 have hP1:=hP.1
 refine ZlV Tryz.func119 rfl rfl Tryz.ntmps119 rfl ωr rfl rfl ?_
 refine⟨Nat,fun n=> [(0,.val (.one (.d (.list (List.map rd P))))),(3,int (n:Int))],
  fun n=> [],fun n=>n≤P.length∧∀ (j:Nat) (y:RV),n≤j→P[j]? =some y→y.q=0,fun n=>n,P.length,?_,⟨Nat.le_refl _,fun j y hj hy=>by have:=(List.getElem?_eq_some_iff.1 hy).1;omega⟩,fun n hs=> ?_⟩
 ·exact ωe
 have g1:=hs.1
 have g2:=hs.2
 refine fork (fun e1=> ?_) (fun e1=> ?_)
 ·have f10:(n:Int) >0:=of_decide_eq_true e1
  obtain⟨x14,hx14⟩:∃ vv,P[(n - 1)]? =some vv:=⟨_,List.getElem?_eq_getElem ωm⟩
  have hzx14:=hP.2 x14 (List.mem_of_getElem? hx14)
  refine k_ix (n - 1) [D.v (.bool x14.s),D.v (.string x14.a),D.v (.string x14.d)] ωf (Zl hx14) rfl ?_
  refine ZcH (x:=x14) ω fun n16 h16=> ?_
  refine⟨fun e2=> ?_,fun e2=> ?_⟩
  ·have f18:x14.q=0:=(Zav h16).1 (ZL e2)
   refine⟨n - 1,⟨ω,fun j y hj hy=>by
    by_cases e:j=n - 1
    ·subst e;obtain rfl:=Option.some.inj (hx14.symm.trans hy);exact f18
    ·exact g2 j y ω hy⟩,by simp only;omega,?_⟩
   constructor<;>(repeat' (first|exact rfl|exact True.intro|apply And.intro))
   all_goals first
    |exact ωb
    |exact ωa
  ·have f18:¬ (x14.q=0):=fun hh=>ZM e2 ((Zav h16).2 hh)
   refine⟨⟨ω,rfl,(by show ((n:Int))*40≤_;omega),ω⟩,?_⟩
   have hcut:n=0∨∃ y:RV,P[n - 1]? =some y∧y.q≠0:= .inr ⟨x14,hx14,f18⟩
   have hN:(tlQ P n).length=n:=Zcj g1
   have hfl:∀ i,i≤n→(flQ (tlQ P n) i).length=n:=fun i hi=>by rw [Zbh _ ω,hN]
   have hf0:=Zga (tlQ P n) hN
   refine⟨Nat,fun i=> [(0,.val (.one (.d (.list (List.map rd P))))),(4,.val (.one (.row 22 0))),(24,int (n:Int)),(25,int (i:Int))],
    fun i=> [(22,.row 25 3 0 (flQ (tlQ P n) i) true)],fun i=>i≤n,fun i=>n - i,0,?_,Nat.zero_le _,fun i hs=> ?_⟩
   ·constructor<;>(repeat' (first|exact rfl|exact True.intro|exact⟨_,_,rfl⟩|exact ωd|apply And.intro))
    all_goals first
     |exact hf0
     |exact hf0.symm
     |exact congrArg (fun n:Int=>D.v (.int .i64 n)) (by rw [List.length_replicate,Int.toNat_natCast])
     |exact ωa
     |(simp;done)
   have hfi:=hfl i hs
   refine⟨fun e3=> ?_,fun e3=> ?_⟩
   ·have f26:(i:Int)< (n:Int):=of_decide_eq_true e3
    obtain⟨x32,hx32⟩:∃ vv,P[i]? =some vv:=⟨_,List.getElem?_eq_getElem ωm⟩
    have hzx32:=hP.2 x32 (List.mem_of_getElem? hx32)
    refine k_ix i [D.v (.bool x32.s),D.v (.string x32.a),D.v (.string x32.d)] ωf (Zl hx32) rfl ?_
    refine k_ix i [D.v (.bool x32.s),D.v (.string x32.a),D.v (.string x32.d)] ωf (Zl hx32) rfl ?_
    refine Zbw (x:=x32) ω fun q38 h38 z38=> ?_
    simp only [cn_z] at z38
    refine k_at_own' i ωf (by first|omega|(simp;omega)) ?_
    refine⟨by first|omega|(simp;omega),?_⟩
    refine⟨ωr,?_⟩
    have e38:(flQ (tlQ P n) i).set i (rdc q38)=flQ (tlQ P n) (i+1):=by rw [h38];exact Zbg (ZhU hx32 ω)
    refine⟨i+1,ω,by simp only;omega,?_⟩
    constructor<;>(repeat' (first|exact rfl|exact True.intro|apply And.intro))
    all_goals first
     |exact e38
     |exact e38.symm
     |exact ωb
     |exact ωa
   ·have f26:¬ ((i:Int)< (n:Int)):=of_decide_eq_false e3
    obtain rfl:i=n:=ω
    have hT:trQ P=tlQ P i:=by unfold trQ;rw [Zdb P i g1 g2 hcut]
    rw [hT,← Zbi,hN]
    all_goals exact rfl
 ·have f10:¬ ((n:Int) >0):=of_decide_eq_false e1
  refine⟨fun e=>absurd e ωd,fun _=> ?_⟩
  refine⟨⟨ω,rfl,(by show ((n:Int))*40≤_;omega),ω⟩,?_⟩
  have hcut:n=0∨∃ y:RV,P[n - 1]? =some y∧y.q≠0:= .inl ω
  have hN:(tlQ P n).length=n:=Zcj g1
  have hfl:∀ i,i≤n→(flQ (tlQ P n) i).length=n:=fun i hi=>by rw [Zbh _ ω,hN]
  have hf0:=Zga (tlQ P n) hN
  refine⟨Nat,fun i=> [(0,.val (.one (.d (.list (List.map rd P))))),(4,.val (.one (.row 22 0))),(24,int (n:Int)),(25,int (i:Int))],
   fun i=> [(22,.row 25 3 0 (flQ (tlQ P n) i) true)],fun i=>i≤n,fun i=>n - i,0,?_,Nat.zero_le _,fun i hs=> ?_⟩
  ·constructor<;>(repeat' (first|exact rfl|exact True.intro|exact⟨_,_,rfl⟩|exact ωd|apply And.intro))
   all_goals first
    |exact hf0
    |exact hf0.symm
    |exact congrArg (fun n:Int=>D.v (.int .i64 n)) (by rw [List.length_replicate,Int.toNat_natCast])
    |exact ωa
    |(simp;done)
  have hfi:=hfl i hs
  refine⟨fun e4=> ?_,fun e4=> ?_⟩
  ·have f26:(i:Int)< (n:Int):=of_decide_eq_true e4
   obtain⟨x32,hx32⟩:∃ vv,P[i]? =some vv:=⟨_,List.getElem?_eq_getElem ωm⟩
   have hzx32:=hP.2 x32 (List.mem_of_getElem? hx32)
   refine k_ix i [D.v (.bool x32.s),D.v (.string x32.a),D.v (.string x32.d)] ωf (Zl hx32) rfl ?_
   refine k_ix i [D.v (.bool x32.s),D.v (.string x32.a),D.v (.string x32.d)] ωf (Zl hx32) rfl ?_
   refine Zbw (x:=x32) ω fun q38 h38 z38=> ?_
   simp only [cn_z] at z38
   refine k_at_own' i ωf (by first|omega|(simp;omega)) ?_
   refine⟨by first|omega|(simp;omega),?_⟩
   refine⟨ωr,?_⟩
   have e38:(flQ (tlQ P n) i).set i (rdc q38)=flQ (tlQ P n) (i+1):=by rw [h38];exact Zbg (ZhU hx32 ω)
   refine⟨i+1,ω,by simp only;omega,?_⟩
   constructor<;>(repeat' (first|exact rfl|exact True.intro|apply And.intro))
   all_goals first
    |exact e38
    |exact e38.symm
    |exact ωb
    |exact ωa
  ·have f26:¬ ((i:Int)< (n:Int)):=of_decide_eq_false e4
   obtain rfl:i=n:=ω
   have hT:trQ P=tlQ P i:=by unfold trQ;rw [Zdb P i g1 g2 hcut]
   rw [hT,← Zbi,hN]
   all_goals exact rfl
theorem Zhf (x y:RV) (hx:x.z≤1099511627776) (hy:y.z≤1099511627776):Spec Tryz.prog Tab 122 [pair x y] (rat (cn (((1:Int):Rat) / ((2:Int):Rat)*(x.q+y.q)))):=by
 refine Zh Tryz.func122 rfl rfl Tryz.ntmps122 rfl ωr rfl rfl ?_
 refine Zis 1 2 ω ω ω ω ωk fun q6 h6 z6=> ?_
 simp only [cn_z] at z6
 refine Za9 (x:=x) (y:=y) ω ω fun q14 h14 z14=> ?_
 simp only [cn_z] at z14
 refine Za8 (x:=cn q6) (y:=cn q14) ωz ωz fun q15 h15 z15=> ?_
 simp only [cn_z] at z15
 simp only [cn_q] at h15
 refine⟨ωr,?_⟩
 refine Eq.trans (b:=rat (cn q15)) ?_ rfl
 have e:q15=((1:Int):Rat) / ((2:Int):Rat)*(x.q+y.q):=by rw [h15,h6,h14]
 rw [e]
def scQ (p:List Rat):List Rat:=p.map fun c=>c / absV (p.getLastD 0)
theorem Zaw (p:List Rat):(scQ p).length=p.length:=by simp [scQ]
theorem Zow {p:List Rat} {i:Nat} {c d:Rat} (h:p[i]? =some c) (g:p[p.length - 1]? =some d):(scQ p)[i]? =some (c / absV d):=by
 have hl:p.getLastD 0=d:=by rw [List.getLastD_eq_getLast?,List.getLast?_eq_getElem?,g];rfl
 unfold scQ;rw [List.getElem?_map,h,hl];rfl
theorem trC {p:List Rat} {n:Nat}:tlQ (p.map cn) n=p.take n:=by
 unfold tlQ
 rw [← List.map_take,List.map_map]
 exact(List.map_congr_left fun q _=>cn_q q).trans (List.map_id _)
def trP (p:List Rat):List Rat:=trQ (p.map cn)
theorem Zfm {p:List Rat} {n:Nat} (h:n≤p.length) (hz:∀ (j:Nat) (c:Rat),n≤j→p[j]? =some c→c=0) (hn:n=0∨∃ c:Rat,p[n - 1]? =some c∧c≠0):trP p=p.take n:=by
 have e:trN (p.map cn)=n:=Zdb (p.map cn) n (by rw [List.length_map];exact h)
  (fun j y hj hy=>by
   rw [List.getElem?_map] at hy
   obtain⟨c,hc,rfl⟩:=Option.map_eq_some_iff.1 hy
   rw [cn_q];exact hz j c hj hc)
  (hn.imp id fun ⟨c,hc,hq⟩=>⟨cn c,by rw [List.getElem?_map,hc];rfl,by rw [cn_q];exact hq⟩)
 unfold trP trQ
 rw [e,trC]
theorem Zoq (p:List Rat) (hp:p.length≤1048576∧∀ c,c∈p→qs c≤1099511627776):SpecT Tryz.prog Tab 119 [.val (.one (.row 1000 0))] 25 3 (List.map rdc p) 25 3 (List.map rdc (trP p)):=by
 have hL:(List.map rdc p).length=p.length:=List.length_map ..
 have hp1:=hp.1
 refine fn_T [] Tryz.func119 rfl rfl Tryz.ntmps119 rfl ωr rfl rfl ?_
 refine⟨Nat,fun n=> [(0,.val (.one (.row 1000 0))),(3,int (n:Int))],
  fun n=> [(1000,.row 25 3 0 (List.map rdc p) true)],fun n=>n≤p.length∧∀ (j:Nat) (c:Rat),n≤j→p[j]? =some c→c=0,fun n=>n,p.length,?_,⟨Nat.le_refl _,fun j y hj hy=>by have:=(List.getElem?_eq_some_iff.1 hy).1;omega⟩,fun n hs=> ?_⟩
 ·exact ωe
 have g1:=hs.1
 have g2:=hs.2
 refine fork (fun e1=> ?_) (fun e1=> ?_)
 ·have f10:(n:Int) >0:=of_decide_eq_true e1
  refine k_at_own' (n - 1) ωf (by first|omega|(simp;omega)) ?_
  obtain⟨x15,hx15⟩:∃ vv,p[(n - 1)]? =some vv:=⟨_,List.getElem?_eq_getElem ωm⟩
  have hzx15:=hp.2 x15 (List.mem_of_getElem? hx15)
  refine ZS [D.v (.bool (cn x15).s),D.v (.string (cn x15).a),D.v (.string (cn x15).d)] _ (Zl hx15) rfl rfl ?_
  refine ZcH (x:=cn x15) ωz fun n16 h16=> ?_
  simp only [cn_q] at h16
  refine⟨fun e2=> ?_,fun e2=> ?_⟩
  ·have f18:x15=0:=(Zav h16).1 (ZL e2)
   refine⟨n - 1,⟨ω,fun j y hj hy=>by
    by_cases e:j=n - 1
    ·subst e;obtain rfl:=Option.some.inj (hx15.symm.trans hy);exact f18
    ·exact g2 j y ω hy⟩,by simp only;omega,?_⟩
   constructor<;>(repeat' (first|exact rfl|exact True.intro|apply And.intro))
   all_goals first
    |exact ωb
    |exact ωa
  ·have f18:¬ (x15=0):=fun hh=>ZM e2 ((Zav h16).2 hh)
   refine⟨⟨ω,rfl,(by show ((n:Int))*40≤_;omega),ω⟩,?_⟩
   have hcut:n=0∨∃ c:Rat,p[n - 1]? =some c∧c≠0:= .inr ⟨x15,hx15,fun e=>f18 (by first|exact e|(rw [cn_q];exact e))⟩
   have hN:(p.take n).length=n:=by rw [List.length_take];omega
   have hfl:∀ i,i≤n→(flQ (p.take n) i).length=n:=fun i hi=>by rw [Zbh _ ω,hN]
   have hf0:=Zga (p.take n) hN
   refine⟨Nat,fun i=> [(0,.val (.one (.row 1000 0))),(4,.val (.one (.row 22 0))),(24,int (n:Int)),(25,int (i:Int))],
    fun i=> [(22,.row 25 3 0 (flQ (p.take n) i) true),(1000,.row 25 3 0 (List.map rdc p) true)],fun i=>i≤n,fun i=>n - i,0,?_,Nat.zero_le _,fun i hs=> ?_⟩
   ·constructor<;>(repeat' (first|exact rfl|exact True.intro|exact⟨_,_,rfl⟩|exact ωd|apply And.intro))
    all_goals first
     |exact hf0
     |exact hf0.symm
     |exact congrArg (fun n:Int=>D.v (.int .i64 n)) (by rw [List.length_replicate,Int.toNat_natCast])
     |exact ωa
     |(simp;done)
   have hfi:=hfl i hs
   refine⟨fun e3=> ?_,fun e3=> ?_⟩
   ·have f26:(i:Int)< (n:Int):=of_decide_eq_true e3
    refine k_at_own' i ωf (by first|omega|(simp;omega)) ?_
    obtain⟨x33,hx33⟩:∃ vv,p[i]? =some vv:=⟨_,List.getElem?_eq_getElem ωm⟩
    have hzx33:=hp.2 x33 (List.mem_of_getElem? hx33)
    refine ZS [D.v (.bool (cn x33).s),D.v (.string (cn x33).a),D.v (.string (cn x33).d)] _ (Zl hx33) rfl rfl ?_
    refine k_at_own' i ωf (by first|omega|(simp;omega)) ?_
    refine ZS [D.v (.bool (cn x33).s),D.v (.string (cn x33).a),D.v (.string (cn x33).d)] _ (Zl hx33) rfl rfl ?_
    refine Zbw (x:=cn x33) ωz fun q38 h38 z38=> ?_
    simp only [cn_z] at z38
    simp only [cn_q] at h38
    refine k_at_own' i ωf (by first|omega|(simp;omega)) ?_
    refine⟨by first|omega|(simp;omega),?_⟩
    refine⟨ωr,?_⟩
    have e38:(flQ (p.take n) i).set i (rdc q38)=flQ (p.take n) (i+1):=by rw [h38];exact Zbg (by rw [List.getElem?_take_of_lt ω];exact hx33)
    refine⟨i+1,ω,by simp only;omega,?_⟩
    constructor<;>(repeat' (first|exact rfl|exact True.intro|apply And.intro))
    all_goals first
     |exact e38
     |exact e38.symm
     |exact ωb
     |exact ωa
   ·have f26:¬ ((i:Int)< (n:Int)):=of_decide_eq_false e3
    obtain rfl:i=n:=ω
    have hT:trP p=p.take i:=Zfm g1 g2 hcut
    rw [hT,← Zbi (p.take i),hN]
    all_goals exact rfl
 ·have f10:¬ ((n:Int) >0):=of_decide_eq_false e1
  refine⟨fun e=>absurd e ωd,fun _=> ?_⟩
  refine⟨⟨ω,rfl,(by show ((n:Int))*40≤_;omega),ω⟩,?_⟩
  have hcut:n=0∨∃ c:Rat,p[n - 1]? =some c∧c≠0:= .inl ω
  have hN:(p.take n).length=n:=by rw [List.length_take];omega
  have hfl:∀ i,i≤n→(flQ (p.take n) i).length=n:=fun i hi=>by rw [Zbh _ ω,hN]
  have hf0:=Zga (p.take n) hN
  refine⟨Nat,fun i=> [(0,.val (.one (.row 1000 0))),(4,.val (.one (.row 22 0))),(24,int (n:Int)),(25,int (i:Int))],
   fun i=> [(22,.row 25 3 0 (flQ (p.take n) i) true),(1000,.row 25 3 0 (List.map rdc p) true)],fun i=>i≤n,fun i=>n - i,0,?_,Nat.zero_le _,fun i hs=> ?_⟩
  ·constructor<;>(repeat' (first|exact rfl|exact True.intro|exact⟨_,_,rfl⟩|exact ωd|apply And.intro))
   all_goals first
    |exact hf0
    |exact hf0.symm
    |exact congrArg (fun n:Int=>D.v (.int .i64 n)) (by rw [List.length_replicate,Int.toNat_natCast])
    |exact ωa
    |(simp;done)
  have hfi:=hfl i hs
  refine⟨fun e4=> ?_,fun e4=> ?_⟩
  ·have f26:(i:Int)< (n:Int):=of_decide_eq_true e4
   refine k_at_own' i ωf (by first|omega|(simp;omega)) ?_
   obtain⟨x33,hx33⟩:∃ vv,p[i]? =some vv:=⟨_,List.getElem?_eq_getElem ωm⟩
   have hzx33:=hp.2 x33 (List.mem_of_getElem? hx33)
   refine ZS [D.v (.bool (cn x33).s),D.v (.string (cn x33).a),D.v (.string (cn x33).d)] _ (Zl hx33) rfl rfl ?_
   refine k_at_own' i ωf (by first|omega|(simp;omega)) ?_
   refine ZS [D.v (.bool (cn x33).s),D.v (.string (cn x33).a),D.v (.string (cn x33).d)] _ (Zl hx33) rfl rfl ?_
   refine Zbw (x:=cn x33) ωz fun q38 h38 z38=> ?_
   simp only [cn_z] at z38
   simp only [cn_q] at h38
   refine k_at_own' i ωf (by first|omega|(simp;omega)) ?_
   refine⟨by first|omega|(simp;omega),?_⟩
   refine⟨ωr,?_⟩
   have e38:(flQ (p.take n) i).set i (rdc q38)=flQ (p.take n) (i+1):=by rw [h38];exact Zbg (by rw [List.getElem?_take_of_lt ω];exact hx33)
   refine⟨i+1,ω,by simp only;omega,?_⟩
   constructor<;>(repeat' (first|exact rfl|exact True.intro|apply And.intro))
   all_goals first
    |exact e38
    |exact e38.symm
    |exact ωb
    |exact ωa
  ·have f26:¬ ((i:Int)< (n:Int)):=of_decide_eq_false e4
   obtain rfl:i=n:=ω
   have hT:trP p=p.take i:=Zfm g1 g2 hcut
   rw [hT,← Zbi (p.take i),hN]
   all_goals exact rfl
def drQ (p:List Rat) (i:Nat):Rat:=(((i:Int)+1:Int):Rat)*(p[i+1]?).getD 0
def drF (p:List Rat) (n:Nat):List Rat:=(List.range n).map (drQ p)
theorem ZdG (p:List Rat) (n:Nat):(drF p n).length=n:=by simp [drF]
theorem Zn7 {α:Type} (g:Rat→α) (p:List Rat) (i:Nat):List.map g (drF p (i+1))=List.map g (drF p i)++ [g (drQ p i)]:=by
 simp [drF,List.range_succ]
theorem ZsG {p:List Rat} {i:Nat} {c:Rat} (h:p[i+1]? =some c):drQ p i=(((i:Int)+1:Int):Rat)*c:=by unfold drQ;rw [h];rfl
theorem Zty {p : List Rat} {B n : Nat} (hp : ∀ c, c ∈ p → qs c ≤ B) (hn : n ≤ 1048576) : ∀ c, c ∈ drF p n → qs c ≤ B + 16 := by
  intro c hc
  obtain ⟨i, hi, rfl⟩ := List.mem_map.1 hc
  have hi := List.mem_range.1 hi
  have h1 := Z2 (((i : Int) + 1 : Int) : Rat) ((p[i + 1]?).getD 0)
  have h2 : qs (((i : Int) + 1 : Int) : Rat) ≤ 8 := ZaR ω ω
  have h3 : qs ((p[i + 1]?).getD 0) ≤ B + 8 := by
    cases e : p[i + 1]? with
    | none => have : qs (0 : Rat) ≤ 8 := by decide +kernel
              show qs (0 : Rat) ≤ _; omega
    | some y => have := hp y (List.mem_of_getElem? e); show qs y ≤ _; omega
  unfold drQ; omega
end
section
variable {K : AV → Prop}
def chD (p:List Rat):List D:= [D.list (List.map rdc p)]
def evP (p:List Rat) (x:Rat):Rat:=evQ (p.map cn) x
theorem ZpT (p:List Rat):List.map rdc p=List.map rd (p.map cn):=by rw [List.map_map];rfl
def chZ (C:List (List Rat)):Prop:=C.length≤1048576∧∀ p,p∈C→p.length≤1048576∧∀ c,c∈p→qs c≤1048576
theorem Zgm {p:List Rat} (h:p.length≤1048576∧∀ c,c∈p→qs c≤1048576):(p.map cn).length≤1048576∧∀ y,y∈p.map cn→y.z≤1048576:=
 ⟨by rw [List.length_map];exact h.1,fun y hy=>by obtain⟨c,hc,rfl⟩:=List.mem_map.1 hy;rw [cn_z];exact h.2 c hc⟩
theorem Ze3 {p:List Rat} {x:RV} (hp:p.length≤1048576∧∀ c,c∈p→qs c≤1048576) (hx:x.z≤1048576) (k:∀ q,q=evP p x.q→(cn q).z≤2199027449864→K (rat (cn q))):Ask 25 [.val (.one (.d (.list (List.map rdc p)))),rat x] K:=by
 rw [ZpT]
 refine Zqr (Zgm hp) hx fun q hq=>k q hq ?_
 rw [cn_z,hq]
 have h1:=ZqF (B:=1048576) hx (p.map cn) (Zgm hp).2
 have h2:=Zlj (n:=(p.map cn).length) (Zgm hp).1
 omega
def chS (C:List (List Rat)) (x:Rat):Nat→Int×Int
 |0=>(0,0)
 |i+1=>
  let s:=sgnQ (evP ((C[i]?).getD []) x)
  (if s*(chS C x i).2< 0 then (chS C x i).1+1 else (chS C x i).1,if s=0 then (chS C x i).2 else s)
def chN (C:List (List Rat)) (x:Rat):Int:=(chS C x C.length).1
theorem Zry (q:Rat):-1≤sgnQ q∧sgnQ q≤1:=by unfold sgnQ;split<;>(try split)<;>omega
theorem ZqZ (C:List (List Rat)) (x:Rat):∀ i,(0≤(chS C x i).1∧(chS C x i).1≤i)∧-1≤(chS C x i).2∧(chS C x i).2≤1
 |0=>by unfold chS;exact⟨⟨ωd,ωd⟩,ωd,ωd⟩
 |i+1=>by
  have ih:=ZqZ C x i
  have hs:=Zry (evP ((C[i]?).getD []) x)
  unfold chS
  simp only
  refine⟨?_,?_⟩
  ·split<;>omega
  ·split<;>omega
theorem Zti {a b:Int} (h1:-1≤a∧a≤1) (h2:-1≤b∧b≤1):-1≤a*b∧a*b≤1:=by
 rcases (show a=-1∨a=0∨a=1 by omega) with rfl|rfl|rfl<;>rcases (show b=-1∨b=0∨b=1 by omega) with rfl|rfl|rfl<;>decide
theorem ZiW {C:List (List Rat)} {x:Rat} {i:Nat} {p:List Rat} {s:Int} (h:C[i]? =some p) (hs:s=sgnQ (evP p x)):
  (chS C x (i+1)).1=(if s*(chS C x i).2< 0 then (chS C x i).1+1 else (chS C x i).1)∧(chS C x (i+1)).2=if s=0 then (chS C x i).2 else s:=by
 subst hs
 have e:(C[i]?).getD []=p:=by rw [h];rfl
 exact⟨by rw [← e];rfl,by rw [← e];rfl⟩
theorem Zgp (C:List (List Rat)) (x:RV) (hC:chZ C) (hx:x.z≤1048576):Spec Tryz.prog Tab 124 [.val (.one (.d (.list (List.map chD C)))),rat x] (int (chN C x.q)):=by
 have hL:(List.map chD C).length=C.length:=List.length_map ..
 have hC1:=hC.1
 refine Zh Tryz.func124 rfl rfl Tryz.ntmps124 rfl ωr rfl rfl ?_
 refine⟨Nat,fun i=> [(3,.val (.one (.ptr 3 0))),(5,int ((chS C x.q i).1)),(6,int ((chS C x.q i).2)),(10,.val (.one (.d (.list (List.map chD C))))),(11,int ((List.map chD C).length:Int)),(12,int (i:Int))],
  fun i=> [(3,.var 25 [.d (.v (.bool x.s)),.d (.v (.string x.a)),.d (.v (.string x.d))])],fun i=>i≤C.length,fun i=>C.length - i,0,?_,Nat.zero_le _,fun i hs=> ?_⟩
 ·exact ωe
 have hr:=ZqZ C x.q i
 have hr1:=hr.1
 have hr2:=hr.2
 refine⟨fun e1=> ?_,fun e1=> ?_⟩
 ·have f13:(i:Int)< ((List.map chD C).length:Int):=of_decide_eq_true e1
  obtain⟨x14,hx14⟩:∃ vv,C[i]? =some vv:=⟨_,List.getElem?_eq_getElem ωm⟩
  have hzx14:=hC.2 x14 (List.mem_of_getElem? hx14)
  refine k_ix i [D.list (List.map rdc x14)] ωf (Zl hx14) rfl ?_
  refine Ze3 (p:=x14) (x:=x) hzx14 hx fun q18 h18 z18=> ?_
  simp only [cn_z] at z18
  refine ZcH (x:=cn q18) ωz fun n19 h19=> ?_
  simp only [cn_q] at h19
  have hs19:-1≤n19∧n19≤1:=by rw [h19];exact Zry _
  have hm22:=Zti hs19 hr2
  have e22:IntKind.i64.wrap (n19*(chS C x.q i).2)=n19*(chS C x.q i).2:=wrap64 _ ω ω
  refine⟨fun e2=> ?_,fun e2=> ?_⟩
  ·have f23:IntKind.i64.wrap (n19*((chS C x.q i).2))< 0:=of_decide_eq_true e2
   rw [e22] at f23
   refine⟨fun e3=> ?_,fun e3=> ?_⟩
   ·have f27:¬ q18=0:=fun hh=>Zoi e3 ((Zav h19).2 hh)
    have hat:=ZiW hx14 (x:=x.q) (s:=n19) (by rw [h19,h18])
    have ha1:=hat.1
    have ha2:=hat.2
    rw [if_pos f23] at ha1
    rw [if_neg (fun h=>f27 ((Zav h19).1 h))] at ha2
    refine⟨i+1,ω,by simp only;omega,?_⟩
    constructor<;>(repeat' (first|exact rfl|exact True.intro|apply And.intro))
    all_goals first
     |exact congrArg (fun n:Int=>D.v (.int .i64 n)) (by rw [ha1,wrap64 _ ω ω])
     |exact congrArg (fun n:Int=>D.v (.int .i64 n)) ha1.symm
     |exact congrArg (fun n:Int=>D.v (.int .i64 n)) ha2.symm
     |exact ωb
     |exact ωa
   ·have f27:¬ (¬ q18=0):=fun hh=>hh ((Zav h19).1 (Zoj e3))
    have hat:=ZiW hx14 (x:=x.q) (s:=n19) (by rw [h19,h18])
    have ha1:=hat.1
    have ha2:=hat.2
    rw [if_pos f23] at ha1
    rw [if_pos ((Zav h19).2 (Classical.not_not.1 f27))] at ha2
    refine⟨i+1,ω,by simp only;omega,?_⟩
    constructor<;>(repeat' (first|exact rfl|exact True.intro|apply And.intro))
    all_goals first
     |exact congrArg (fun n:Int=>D.v (.int .i64 n)) (by rw [ha1,wrap64 _ ω ω])
     |exact congrArg (fun n:Int=>D.v (.int .i64 n)) ha1.symm
     |exact congrArg (fun n:Int=>D.v (.int .i64 n)) ha2.symm
     |exact ωb
     |exact ωa
  ·have f23:¬ (IntKind.i64.wrap (n19*((chS C x.q i).2))< 0):=of_decide_eq_false e2
   rw [e22] at f23
   refine⟨fun e4=> ?_,fun e4=> ?_⟩
   ·have f27:¬ q18=0:=fun hh=>Zoi e4 ((Zav h19).2 hh)
    have hat:=ZiW hx14 (x:=x.q) (s:=n19) (by rw [h19,h18])
    have ha1:=hat.1
    have ha2:=hat.2
    rw [if_neg f23] at ha1
    rw [if_neg (fun h=>f27 ((Zav h19).1 h))] at ha2
    refine⟨i+1,ω,by simp only;omega,?_⟩
    constructor<;>(repeat' (first|exact rfl|exact True.intro|apply And.intro))
    all_goals first
     |exact congrArg (fun n:Int=>D.v (.int .i64 n)) (by rw [ha1,wrap64 _ ω ω])
     |exact congrArg (fun n:Int=>D.v (.int .i64 n)) ha1.symm
     |exact congrArg (fun n:Int=>D.v (.int .i64 n)) ha2.symm
     |exact ωb
     |exact ωa
   ·have f27:¬ (¬ q18=0):=fun hh=>hh ((Zav h19).1 (Zoj e4))
    have hat:=ZiW hx14 (x:=x.q) (s:=n19) (by rw [h19,h18])
    have ha1:=hat.1
    have ha2:=hat.2
    rw [if_neg f23] at ha1
    rw [if_pos ((Zav h19).2 (Classical.not_not.1 f27))] at ha2
    refine⟨i+1,ω,by simp only;omega,?_⟩
    constructor<;>(repeat' (first|exact rfl|exact True.intro|apply And.intro))
    all_goals first
     |exact congrArg (fun n:Int=>D.v (.int .i64 n)) (by rw [ha1,wrap64 _ ω ω])
     |exact congrArg (fun n:Int=>D.v (.int .i64 n)) ha1.symm
     |exact congrArg (fun n:Int=>D.v (.int .i64 n)) ha2.symm
     |exact ωb
     |exact ωa
 ·have f13:¬ ((i:Int)< ((List.map chD C).length:Int)):=of_decide_eq_false e1
  refine Eq.trans (b:=int ((chS C x.q i).1)) ?_ rfl
  obtain rfl:i=C.length:=ω
  rfl
theorem Zf7 {C:List (List Rat)} {x:RV} (hC:chZ C) (hx:x.z≤1048576) (k:K (int (chN C x.q))):Ask 124 [.val (.one (.d (.list (List.map chD C)))),rat x] K:=use (Zgp C x hC hx) rfl k
theorem Zi2 (C:List (List Rat)) (x:RV) (hC:chZ C) (hx:x.z≤1048576) (hn:0< C.length):Spec Tryz.prog Tab 123 [.val (.one (.d (.list (List.map chD C)))),rat x] (bool (decide (evP ((C[0]?).getD []) x.q=0))):=by
 have hL:(List.map chD C).length=C.length:=List.length_map ..
 refine Zh Tryz.func123 rfl rfl Tryz.ntmps123 rfl ωr rfl rfl ?_
 obtain⟨x6,hx6⟩:∃ vv,C[0]? =some vv:=⟨_,List.getElem?_eq_getElem ωm⟩
 have hzx6:=hC.2 x6 (List.mem_of_getElem? hx6)
 refine k_ix 0 [D.list (List.map rdc x6)] ωf (Zl hx6) rfl ?_
 refine Ze3 (p:=x6) (x:=x) hzx6 hx fun q9 h9 z9=> ?_
 simp only [cn_z] at z9
 refine ZcH (x:=cn q9) ωz fun n10 h10=> ?_
 simp only [cn_q] at h10
 refine⟨ωr,?_⟩
 refine Eq.trans (b:=bool (n10==0)) ?_ rfl
 have e:(n10==0)=decide (evP ((C[0]?).getD []) x.q=0):=by
  rw [hx6]
  show (n10==0)=decide (evP x6 x.q=0)
  rw [← h9]
  rw [Bool.eq_iff_iff,beq_iff_eq,decide_eq_true_iff]
  exact Zav h10
 rw [e]
theorem Zlr {C:List (List Rat)} {x:RV} (hC:chZ C) (hx:x.z≤1048576) (hn:0< C.length) (k:K (bool (decide (evP ((C[0]?).getD []) x.q=0)))):Ask 123 [.val (.one (.d (.list (List.map chD C)))),rat x] K:=use (Zi2 C x hC hx hn) rfl k
theorem ZsX (C:List (List Rat)) (x:Rat):0≤chN C x∧chN C x≤C.length:=(ZqZ C x C.length).1
def ctN (C:List (List Rat)) (x y:Rat):Int:=chN C x - chN C y+if evP ((C[0]?).getD []) x=0 then 1 else 0
theorem ZtC {C:List (List Rat)} {x y:Rat} (h:evP ((C[0]?).getD []) x=0):ctN C x y=chN C x - chN C y+1:=by unfold ctN;rw [if_pos h]
theorem ZtD {C:List (List Rat)} {x y:Rat} (h:¬ evP ((C[0]?).getD []) x=0):ctN C x y=chN C x - chN C y:=by unfold ctN;rw [if_neg h,Int.add_zero]
theorem ZjP (C:List (List Rat)) (x y:RV) (hC:chZ C) (hx:x.z≤1048576) (hy:y.z≤1048576) (hn:0< C.length):Spec Tryz.prog Tab 55 [.val (.one (.d (.list (List.map chD C)))),pair x y] (int (ctN C x.q y.q)):=by
 have r1:=ZsX C x.q
 have r2:=ZsX C y.q
 have hC1:=hC.1
 have e14:IntKind.i64.wrap (chN C x.q - chN C y.q)=chN C x.q - chN C y.q:=wrap64 _ ω ω
 refine Zh Tryz.func55 rfl rfl Tryz.ntmps55 rfl ωr rfl rfl ?_
 refine Zf7 (C:=C) (x:=x) hC ω ?_
 refine Zf7 (C:=C) (x:=y) hC ω ?_
 refine⟨ωr,?_⟩
 refine Zlr (C:=C) (x:=x) hC ω hn ?_
 refine⟨fun e1=> ?_,fun e1=> ?_⟩
 ·have f18:evP ((C[0]?).getD []) x.q=0:=of_decide_eq_true e1
  refine Eq.trans (b:=int (IntKind.i64.wrap ((IntKind.i64.wrap ((chN C x.q) - (chN C y.q)))+1))) ?_ rfl
  rw [ZtC f18,e14,wrap64 (chN C x.q - chN C y.q+1) ω ω]
  all_goals rfl
 ·have f18:¬ (evP ((C[0]?).getD []) x.q=0):=of_decide_eq_false e1
  refine Eq.trans (b:=int (IntKind.i64.wrap ((chN C x.q) - (chN C y.q)))) ?_ rfl
  rw [ZtD f18,e14]
  all_goals rfl
theorem Zqq {C:List (List Rat)} {x y:RV} (hC:chZ C) (hx:x.z≤1048576) (hy:y.z≤1048576) (hn:0< C.length) (k:K (int (ctN C x.q y.q))):Ask 55 [.val (.one (.d (.list (List.map chD C)))),pair x y] K:=use (ZjP C x y hC hx hy hn) rfl k
def hfH:Rat:=((1:Int):Rat) / ((2:Int):Rat)
def mdQ (x y:Rat):Rat:=hfH*(x+y)
open Classical in
noncomputable def hvS (C:List (List Rat)) (x y:RV):RV×RV:=if evP ((C[0]?).getD []) (mdQ x.q y.q)=0 then (cn (mdQ x.q y.q),cn (mdQ x.q y.q)) else if ctN C x.q (mdQ x.q y.q)=1 then (x,cn (mdQ x.q y.q)) else (cn (mdQ x.q y.q),y)
theorem Zsw {C:List (List Rat)} {x y:RV} (h:evP ((C[0]?).getD []) (mdQ x.q y.q)=0):hvS C x y=(cn (mdQ x.q y.q),cn (mdQ x.q y.q)):=if_pos h
theorem Zqv {C:List (List Rat)} {x y:RV} (h:¬ evP ((C[0]?).getD []) (mdQ x.q y.q)=0) (g:ctN C x.q (mdQ x.q y.q)=1):hvS C x y=(x,cn (mdQ x.q y.q)):=(if_neg h).trans (if_pos g)
theorem Zqu {C:List (List Rat)} {x y:RV} (h:¬ evP ((C[0]?).getD []) (mdQ x.q y.q)=0) (g:¬ ctN C x.q (mdQ x.q y.q)=1):hvS C x y=(cn (mdQ x.q y.q),y):=(if_neg h).trans (if_neg g)
theorem Ze0 {x y:RV} (hx:x.z≤1099511627776) (hy:y.z≤1099511627776) (k:∀ q,q=mdQ x.q y.q→(cn q).z≤x.z+y.z+40→K (rat (cn q))):Ask 122 [pair x y] K:=
 use (Zhf x y hx hy) rfl (k _ rfl (by
  have h1:qs hfH≤16:=by decide+kernel
  have h2:=Z2 hfH (x.q+y.q)
  have h3:=ZaF x.q y.q
  have:=x.z1
  have:=y.z1
  rw [cn_z]
  show qs (hfH*(x.q+y.q))≤_
  omega))
theorem Zhk {C:List (List Rat)} {x:RV} {r:Rat} (hC:chZ C) (hx:x.z≤1048576) (hn:0< C.length) (e:x.q=r) (k:K (bool (decide (evP ((C[0]?).getD []) r=0)))):Ask 123 [.val (.one (.d (.list (List.map chD C)))),rat x] K:=by
 subst e;exact Zlr hC hx hn k
theorem Ze2 {C:List (List Rat)} {x y:RV} {r s:Rat} (hC:chZ C) (hx:x.z≤1048576) (hy:y.z≤1048576) (hn:0< C.length) (e1:x.q=r) (e2:y.q=s) (k:K (int (ctN C r s))):Ask 55 [.val (.one (.d (.list (List.map chD C)))),pair x y] K:=by
 subst e1 e2;exact Zqq hC hx hy hn k
theorem ZoS {x:RV} {r:Rat} (hx:x.z≤4398046511104) (e:x.q=r) (k:K (pair (cn r) (cn r))):Ask 61 [rat x] K:=by
 subst e;exact use (Zh5 x hx) rfl k
theorem Zel (C:List (List Rat)) (x y:RV) (hC:chZ C) (hx:x.z≤400000) (hy:y.z≤400000) (hn:0< C.length):Spec Tryz.prog Tab 52 [.val (.one (.d (.list (List.map chD C)))),pair x y] (pair ((hvS C x y).1) ((hvS C x y).2)):=by
 refine Zh Tryz.func52 rfl rfl Tryz.ntmps52 rfl ωr rfl rfl ?_
 refine Ze0 (x:=x) (y:=y) ω ω fun q8 h8 z8=> ?_
 simp only [cn_z] at z8
 subst h8
 refine Zhk (C:=C) (x:=cn (mdQ x.q y.q)) (r:=(mdQ x.q y.q)) hC ωz hn (cn_q _) ?_
 refine⟨fun e1=> ?_,fun e1=> ?_⟩
 ·have f11:evP ((C[0]?).getD []) (mdQ x.q y.q)=0:=of_decide_eq_true e1
  refine ZoS (x:=cn (mdQ x.q y.q)) (r:=(mdQ x.q y.q)) ωz (cn_q _) ?_
  refine Eq.trans (b:=pair (cn (mdQ x.q y.q)) (cn (mdQ x.q y.q))) ?_ rfl
  rw [Zsw f11]
  all_goals rfl
 ·have f11:¬ (evP ((C[0]?).getD []) (mdQ x.q y.q)=0):=of_decide_eq_false e1
  refine Ze2 (C:=C) (x:=x) (y:=cn (mdQ x.q y.q)) (r:=x.q) (s:=(mdQ x.q y.q)) hC ω ωz hn rfl (cn_q _) ?_
  refine⟨fun e2=> ?_,fun e2=> ?_⟩
  ·have f21:ctN C x.q (mdQ x.q y.q)=1:=ZL e2
   refine Eq.trans (b:=pair x (cn (mdQ x.q y.q))) ?_ rfl
   rw [Zqv f11 f21]
   all_goals rfl
  ·have f21:¬ (ctN C x.q (mdQ x.q y.q)=1):=ZM e2
   refine Eq.trans (b:=pair (cn (mdQ x.q y.q)) y) ?_ rfl
   rw [Zqu f11 f21]
   all_goals rfl
end
section
variable {K : AV → Prop}
def lsQ (p:List Rat):Rat:=(p[p.length - 1]?).getD 0
theorem Zil {p:List Rat} {c:Rat} (h:p[p.length - 1]? =some c):lsQ p=c:=by unfold lsQ;rw [h];rfl
def sbE (r q:List Rat) (k:Nat) (c:Rat) (i j:Nat):Rat:=if k≤j∧j< k+i then (r[j]?).getD 0 - c*(q[j - k]?).getD 0 else (r[j]?).getD 0
def sbF (r q:List Rat) (k:Nat) (c:Rat) (i:Nat):List Rat:=(List.range r.length).map (sbE r q k c i)
theorem Zaq (r q:List Rat) (k:Nat) (c:Rat) (i:Nat):(sbF r q k c i).length=r.length:=by simp [sbF]
theorem ZcD {r q:List Rat} {k:Nat} {c:Rat} {i j:Nat} (h:j< r.length):(sbF r q k c i)[j]? =some (sbE r q k c i j):=by simp [sbF,h]
theorem ZrD (r q:List Rat) (k:Nat) (c:Rat):sbF r q k c 0=r:=by
 apply List.ext_getElem?
 intro j
 by_cases h:j< r.length
 ·rw [ZcD h,List.getElem?_eq_getElem h]
  unfold sbE
  rw [if_neg ω,List.getElem?_eq_getElem h];rfl
 ·rw [List.getElem?_eq_none (by rw [Zaq];omega),List.getElem?_eq_none ω]
theorem ZpK {r q:List Rat} {k:Nat} {c x y:Rat} {i:Nat} (h:(sbF r q k c i)[k+i]? =some x) (g:q[i]? =some y):(sbF r q k c i).set (k+i) (x - c*y)=sbF r q k c (i+1):=by
 have hi:k+i< r.length:=by have:=(List.getElem?_eq_some_iff.1 h).1;rwa [Zaq] at this
 have hx:x=(r[k+i]?).getD 0:=by
  have:=(ZcD (q:=q) (k:=k) (c:=c) (i:=i) hi).symm.trans h
  rw [← Option.some.inj this]
  unfold sbE;rw [if_neg ω]
 apply List.ext_getElem?
 intro j
 by_cases e:j=k+i
 ·subst e
  rw [List.getElem?_set_self (by rw [Zaq];exact hi),ZcD hi]
  unfold sbE
  rw [if_pos ω,hx,show k+i - k=i by omega,g];rfl
 ·rw [List.getElem?_set_ne ω]
  by_cases hj:j< r.length
  ·rw [ZcD hj,ZcD hj]
   unfold sbE
   by_cases u:k≤j∧j< k+i
   ·rw [if_pos u,if_pos ω]
   ·rw [if_neg u,if_neg ω]
  ·rw [List.getElem?_eq_none (by rw [Zaq];omega),List.getElem?_eq_none (by rw [Zaq];omega)]
def dvT (q:List Rat) (s:List Rat×List Rat):List Rat×List Rat:=
 if s.2.length< q.length then s else (s.1.set (s.2.length - q.length) (lsQ s.2 / lsQ q),trP (sbF s.2 q (s.2.length - q.length) (lsQ s.2 / lsQ q) q.length))
def dvS (p q:List Rat):Nat→List Rat×List Rat
 |0=>(List.replicate ((trP p).length+1 - q.length) 0,trP p)
 |t+1=>dvT q (dvS p q t)
def dvF (p q:List Rat):List Rat×List Rat:=dvS p q (p.length+1)
theorem ZdF {p q:List Rat} {t:Nat} (h:¬ (dvS p q t).2.length< q.length):dvS p q (t+1)=((dvS p q t).1.set ((dvS p q t).2.length - q.length) (lsQ (dvS p q t).2 / lsQ q),trP (sbF (dvS p q t).2 q ((dvS p q t).2.length - q.length) (lsQ (dvS p q t).2 / lsQ q) q.length)):=if_neg h
theorem ZaN {p q : List Rat} {t : Nat} (h : (dvS p q t).2.length < q.length) : ∀ n, t ≤ n → dvS p q n = dvS p q t := by
  intro n
  induction n with
  | zero => intro hn; obtain rfl : t = 0 := ω
            rfl
  | succ n ih =>
    intro hn
    by_cases e : t = n + 1
    · rw [e]
    · have := ih ω
      show dvT q (dvS p q n) = _
      rw [this]; exact if_pos h
theorem Zor:∀ (P:List RV) (y:RV),P[P.length - 1]? =some y→y.q=0→trN P< P.length
 | [],y,h,_=>by simp at h
 |a :: l,y,h,hy=>by
  cases l with
  |nil=>
   obtain rfl:a=y:=by simpa using h
   unfold trN
   rw [if_pos (show trN []=0 from rfl),if_pos hy];exact Nat.zero_lt_one
  |cons b m=>
   have ih:=Zor (b :: m) y (by simpa using h) hy
   unfold trN
   split
   ·split<;>simp
   ·rw [List.length_cons];omega
theorem Zgy (p:List Rat):(trP p).length=trN (p.map cn):=by
 unfold trP trQ
 exact Zcj (ZhS _)
theorem Zre {p:List Rat} (h:p[p.length - 1]? =some 0):(trP p).length< p.length:=by
 rw [Zgy]
 have:=Zor (p.map cn) (cn 0) (by rw [List.length_map,List.getElem?_map,h];rfl) (cn_q 0)
 rwa [List.length_map] at this
theorem Zd1 (p:List Rat):(trP p).length≤p.length:=by
 rw [Zgy]
 have:=ZhS (p.map cn)
 rwa [List.length_map] at this
theorem ZjO {p q:List Rat} {t:Nat} (hq:0< q.length) (h0:lsQ q≠0) (h:¬ (dvS p q t).2.length< q.length):(dvS p q (t+1)).2.length< (dvS p q t).2.length:=by
 rw [ZdF h]
 show (trP (sbF _ _ _ _ _)).length< _
 generalize (dvS p q t).2=r at h ⊢
 have hr:r.length - 1< r.length:=ω
 have hl:(sbF r q (r.length - q.length) (lsQ r / lsQ q) q.length)[(sbF r q (r.length - q.length) (lsQ r / lsQ q) q.length).length - 1]? =some 0:=by
  rw [Zaq,ZcD hr]
  unfold sbE
  rw [if_pos ω,show r.length - 1 - (r.length - q.length)=q.length - 1 by omega]
  have e1:(r[r.length - 1]?).getD 0=lsQ r:=rfl
  have e2:(q[q.length - 1]?).getD 0=lsQ q:=rfl
  rw [e1,e2]
  refine congrArg some ?_
  grind
 have:=Zre hl
 rwa [Zaq] at this
theorem Zl5 {p q:List Rat} (hq:0< q.length) (h0:lsQ q≠0):∀ t,(dvS p q t).2.length≤(trP p).length
 |0=>Nat.le_refl _
 |t+1=>by
  have ih:=Zl5 hq h0 (p:=p) t
  by_cases h:(dvS p q t).2.length< q.length
  ·rw [ZaN h (t+1) ω];exact ih
  ·have:=ZjO hq h0 h;omega
theorem Zn5 (p q:List Rat):∀ t,(dvS p q t).1.length=(trP p).length+1 - q.length
 |0=>List.length_replicate
 |t+1=>by
  have ih:=Zn5 p q t
  by_cases h:(dvS p q t).2.length< q.length
  ·rw [ZaN h (t+1) ω];exact ih
  ·rw [ZdF h];show (List.set _ _ _).length=_;rw [List.length_set];exact ih
theorem Zrb (p:List Rat) (hp:p.length≤1048576∧∀ c,c∈p→qs c≤1048576):SpecR Tryz.prog Tab 119 [.val (.one (.d (.list (List.map rdc p))))] 25 3 (List.map rdc (trP p)):=by
 rw [ZpT p];exact ZgD (p.map cn) (Zgm hp)
theorem ZrC {r q : List Rat} {k : Nat} {c : Rat} {i B : Nat} (hr : ∀ x, x ∈ r → qs x ≤ B) (hq : ∀ x, x ∈ q → qs x ≤ B) (hc : qs c ≤ 3 * B + 100) : ∀ x, x ∈ sbF r q k c i → qs x ≤ 6 * B + 400 := by
  have hd : ∀ (l : List Rat) (j : Nat), (∀ x, x ∈ l → qs x ≤ B) → qs ((l[j]?).getD 0) ≤ B + 8 := by
    intro l j hl
    cases e : l[j]? with
    | none => have : qs (0 : Rat) ≤ 8 := by decide +kernel
              show qs (0 : Rat) ≤ _; omega
    | some y => have := hl y (List.mem_of_getElem? e); show qs y ≤ _; omega
  intro x hx
  obtain ⟨j, _, rfl⟩ := List.mem_map.1 hx
  have h1 := hd r j hr
  have h2 := hd q (j - k) hq
  have h3 := Z2 c ((q[j - k]?).getD 0)
  have h4 := Zbv ((r[j]?).getD 0) (c * (q[j - k]?).getD 0)
  unfold sbE
  split <;> omega
theorem ZsB (m:Nat):flQ (List.replicate m 0) m=List.map rdc (List.replicate m 0):=by
 have:=Zbi (List.replicate m (0:Rat))
 rwa [List.length_replicate] at this
theorem ZbL (p q:List Rat) (hp:p.length≤1048576∧∀ c,c∈p→qs c≤1048576) (hq:q.length≤1048576∧∀ c,c∈q→qs c≤1048576) (hq0:0< q.length) (h0:lsQ q≠0) (hB:∀ t,(∀ c,c∈(dvS p q t).1→qs c≤1048576)∧∀ c,c∈(dvS p q t).2→qs c≤1048576):Spec Tryz.prog Tab 181 [.val (.one (.d (.list (List.map rdc p)))),.val (.one (.d (.list (List.map rdc q))))] (.tup [.one (.d (.list (List.map rdc ((dvF p q).1)))),.one (.d (.list (List.map rdc ((dvF p q).2))))]):=by
 have hLp:(List.map rdc (trP p)).length=(trP p).length:=List.length_map ..
 have hLq:(List.map rdc q).length=q.length:=List.length_map ..
 have hp1:=hp.1
 have hq1:=hq.1
 have htp:=Zd1 p
 have em:(if IntKind.i64.wrap ((IntKind.i64.wrap (((List.map rdc (trP p)).length:Int) - ((List.map rdc q).length:Int)))+1) >0 then IntKind.i64.wrap ((IntKind.i64.wrap (((List.map rdc (trP p)).length:Int) - ((List.map rdc q).length:Int)))+1) else 0)=((((trP p).length+1 - q.length):Nat):Int):=by
  rw [hLp,hLq,wrap64 (((trP p).length:Int) - (q.length:Int)) ω ω,wrap64 (((trP p).length:Int) - (q.length:Int)+1) ω ω]
  by_cases h:((trP p).length:Int) - (q.length:Int)+1 >0
  ·rw [if_pos h];omega
  ·rw [if_neg h];omega
 refine ZcJ [86] Tryz.func181 rfl rfl Tryz.ntmps181 rfl ωr rfl rfl ?_
 refine useN (Zrb p hp) ?_
 refine⟨⟨by rw [em];omega,rfl,(by show (if IntKind.i64.wrap ((IntKind.i64.wrap (((List.map rdc (trP p)).length:Int) - ((List.map rdc q).length:Int)))+1) >0 then IntKind.i64.wrap ((IntKind.i64.wrap (((List.map rdc (trP p)).length:Int) - ((List.map rdc q).length:Int)))+1) else 0)*40≤_;rw [em];omega),by rw [em];omega⟩,?_⟩
 have hN:(List.replicate ((trP p).length+1 - q.length) (0:Rat)).length=((trP p).length+1 - q.length):=List.length_replicate
 have hfl:∀ i,i≤((trP p).length+1 - q.length)→(flQ (List.replicate ((trP p).length+1 - q.length) 0) i).length=((trP p).length+1 - q.length):=fun i hi=>by rw [Zbh _ (by rw [hN];exact hi),hN]
 have hf0:List.replicate (if IntKind.i64.wrap ((IntKind.i64.wrap (((List.map rdc (trP p)).length:Int) - ((List.map rdc q).length:Int)))+1) >0 then IntKind.i64.wrap ((IntKind.i64.wrap (((List.map rdc (trP p)).length:Int) - ((List.map rdc q).length:Int)))+1) else 0).toNat (rd z0)=flQ (List.replicate ((trP p).length+1 - q.length) 0) 0:=by rw [em];exact Zga _ hN
 refine⟨Nat,fun i=> [(1,.val (.one (.d (.list (List.map rdc q))))),(4,.val (.one (.row 19 0))),(5,.val (.one (.row 11 0))),(21,int ((((trP p).length+1 - q.length):Nat):Int)),(22,int (i:Int))],
  fun i=> [(11,.row 25 3 0 (List.map rdc (trP p)) true),(19,.row 25 3 0 (flQ (List.replicate ((trP p).length+1 - q.length) 0) i) true)],fun i=>i≤((trP p).length+1 - q.length),fun i=>((trP p).length+1 - q.length) - i,0,?_,Nat.zero_le _,fun i hs=> ?_⟩
 ·constructor<;>(repeat' (first|exact rfl|exact True.intro|exact⟨_,_,rfl⟩|exact ωd|apply And.intro))
  all_goals first
   |exact hf0
   |exact hf0.symm
   |exact congrArg (fun n:Int=>D.v (.int .i64 n)) (by rw [List.length_replicate,em,Int.toNat_natCast])
   |exact ωa
   |(simp;done)
 have hfi:=hfl i hs
 refine⟨fun e1=> ?_,fun e1=> ?_⟩
 ·have f23:(i:Int)< ((((trP p).length+1 - q.length):Nat):Int):=of_decide_eq_true e1
  refine k_of (0) ω ω fun q27 h27 z27=> ?_
  simp only [cn_z] at z27
  refine k_at_own' i ωf (by first|omega|(simp;omega)) ?_
  refine⟨by first|omega|(simp;omega),?_⟩
  have e27:(flQ (List.replicate ((trP p).length+1 - q.length) 0) i).set i (rdc q27)=flQ (List.replicate ((trP p).length+1 - q.length) 0) (i+1):=by rw [show q27=(0:Rat) from h27];exact Zbg (by rw [List.getElem?_replicate,if_pos ω])
  refine⟨i+1,ω,by simp only;omega,?_⟩
  constructor<;>(repeat' (first|exact rfl|exact True.intro|apply And.intro))
  all_goals first
   |exact e27
   |exact e27.symm
   |exact ωb
   |exact ωa
 ·have f23:¬ ((i:Int)< ((((trP p).length+1 - q.length):Nat):Int)):=of_decide_eq_false e1
  have hi:i=((trP p).length+1 - q.length):=ω
  have e19:flQ (List.replicate ((trP p).length+1 - q.length) 0) i=List.map rdc (dvS p q 0).1:=by rw [hi];exact ZsB _
  refine⟨Nat,fun t=> [(1,.val (.one (.d (.list (List.map rdc q))))),(4,.val (.one (.row 19 0))),(5,.val (.one (.row 11 0)))],
   fun t=> [(11,.row 25 3 0 (List.map rdc ((dvS p q t).2)) true),(19,.row 25 3 0 (List.map rdc ((dvS p q t).1)) true)],fun t=>t+(dvS p q t).2.length≤p.length,fun t=>(dvS p q t).2.length,0,?_,(by have:=Zd1 p;show 0+(trP p).length≤p.length;omega),fun t hs=> ?_⟩
  ·constructor<;>(repeat' (first|exact rfl|exact True.intro|exact⟨_,_,rfl⟩|exact ωd|apply And.intro))
   all_goals first
    |exact e19
    |exact e19.symm
    |(simp;done)
  have ht:=hs
  have hLr:(List.map rdc (dvS p q t).2).length=(dvS p q t).2.length:=List.length_map ..
  have hby:=Zn5 p q t
  have hle:=Zl5 hq0 h0 (p:=p) t
  have hBt:=hB t
  refine⟨fun e2=> ?_,fun e2=> ?_⟩
  ·have f34:((List.map rdc ((dvS p q t).2)).length:Int)≥((List.map rdc q).length:Int):=of_decide_eq_true e2
   have hge:¬ (dvS p q t).2.length< q.length:=ω
   have hw7:IntKind.i64.wrap (((List.map rdc ((dvS p q t).2)).length:Int) - ((List.map rdc q).length:Int))=((((dvS p q t).2.length - q.length):Nat):Int):=by rw [hLr,hLq,wrap64 (((dvS p q t).2.length:Int) - (q.length:Int)) ω ω];omega
   refine k_at_own' ((dvS p q t).2.length - 1) ωf (by first|omega|(simp;omega)) ?_
   obtain⟨x48,hx48⟩:∃ vv,((dvS p q t).2)[((dvS p q t).2.length - 1)]? =some vv:=⟨_,List.getElem?_eq_getElem ωm⟩
   have hzx48:=hBt.2 x48 (List.mem_of_getElem? hx48)
   refine ZS [D.v (.bool (cn x48).s),D.v (.string (cn x48).a),D.v (.string (cn x48).d)] _ (Zl hx48) rfl rfl ?_
   obtain⟨x53,hx53⟩:∃ vv,q[(q.length - 1)]? =some vv:=⟨_,List.getElem?_eq_getElem ωm⟩
   have hzx53:=hq.2 x53 (List.mem_of_getElem? hx53)
   refine k_ix (q.length - 1) [D.v (.bool (cn x53).s),D.v (.string (cn x53).a),D.v (.string (cn x53).d)] ωf (Zl hx53) rfl ?_
   refine Zhp (x:=cn x48) (y:=cn x53) ωz ωz (by rw [cn_q,← Zil hx53];exact h0) fun q55 h55 z55=> ?_
   simp only [cn_z] at z55
   simp only [cn_q] at h55
   refine k_at_own' ((dvS p q t).2.length - q.length) ωf (by first|omega|(simp;omega)) ?_
   refine⟨by first|omega|(simp;omega),?_⟩
   refine⟨ωr,?_⟩
   have s11:List.map rdc (dvS p q t).2=List.map rdc (sbF (dvS p q t).2 q ((dvS p q t).2.length - q.length) q55 0):=by rw [ZrD]
   have s19:(List.map rdc (dvS p q t).1).set ((dvS p q t).2.length - q.length) (rdc q55)=List.map rdc ((dvS p q t).1.set ((dvS p q t).2.length - q.length) q55):=List.map_set.symm
   refine⟨Nat,fun i2=> [(1,.val (.one (.d (.list (List.map rdc q))))),(4,.val (.one (.row 19 0))),(5,.val (.one (.row 11 0))),(7,int (IntKind.i64.wrap (((List.map rdc ((dvS p q t).2)).length:Int) - ((List.map rdc q).length:Int)))),(59,.val (.one (.d (.list (List.map rdc q))))),(60,int ((List.map rdc q).length:Int)),(61,int (i2:Int))],
    fun i2=> [(11,.row 25 3 0 (List.map rdc (sbF (dvS p q t).2 q ((dvS p q t).2.length - q.length) q55 i2)) true),(19,.row 25 3 0 (List.map rdc ((dvS p q t).1.set ((dvS p q t).2.length - q.length) q55)) true)],fun i2=>i2≤q.length,fun i2=>q.length - i2,0,?_,Nat.zero_le _,fun i2 hs=> ?_⟩
   ·constructor<;>(repeat' (first|exact rfl|exact True.intro|exact⟨_,_,rfl⟩|exact ωd|apply And.intro))
    all_goals first
     |exact s11
     |exact s11.symm
     |exact s19
     |exact s19.symm
     |exact ωa
     |(simp;done)
   have hLs:(List.map rdc (sbF (dvS p q t).2 q ((dvS p q t).2.length - q.length) q55 i2)).length=(dvS p q t).2.length:=by rw [List.length_map,Zaq]
   have hLs2:=Zaq (dvS p q t).2 q ((dvS p q t).2.length - q.length) q55 i2
   have hLb:(List.map rdc ((dvS p q t).1.set ((dvS p q t).2.length - q.length) q55)).length=((trP p).length+1 - q.length):=by rw [List.length_map,List.length_set];exact hby
   have hLb2:((dvS p q t).1.set ((dvS p q t).2.length - q.length) q55).length=((trP p).length+1 - q.length):=by rw [List.length_set];exact hby
   refine⟨fun e3=> ?_,fun e3=> ?_⟩
   ·have f62:(i2:Int)< ((List.map rdc q).length:Int):=of_decide_eq_true e3
    obtain⟨x64,hx64⟩:∃ vv,q[i2]? =some vv:=⟨_,List.getElem?_eq_getElem ωm⟩
    have hzx64:=hq.2 x64 (List.mem_of_getElem? hx64)
    refine k_ix i2 [D.v (.bool (cn x64).s),D.v (.string (cn x64).a),D.v (.string (cn x64).d)] ωf (Zl hx64) rfl ?_
    refine k_at_own' (((dvS p q t).2.length - q.length)+i2) ωf (by first|omega|(simp;omega)) ?_
    obtain⟨x75,hx75⟩:∃ vv,(sbF (dvS p q t).2 q ((dvS p q t).2.length - q.length) q55 i2)[(((dvS p q t).2.length - q.length)+i2)]? =some vv:=⟨_,List.getElem?_eq_getElem ωm⟩
    have hzx75:=ZrC hBt.2 hq.2 ω x75 (List.mem_of_getElem? hx75)
    refine ZS [D.v (.bool (cn x75).s),D.v (.string (cn x75).a),D.v (.string (cn x75).d)] _ (Zl hx75) rfl rfl ?_
    refine k_at_own' ((dvS p q t).2.length - q.length) ωf (by first|omega|(simp;omega)) ?_
    obtain⟨x79,hx79⟩:∃ vv,((dvS p q t).1.set ((dvS p q t).2.length - q.length) q55)[((dvS p q t).2.length - q.length)]? =some vv:=⟨_,List.getElem?_eq_getElem ωm⟩
    have hvx79:x79=q55:=Option.some.inj (hx79.symm.trans (List.getElem?_set_self ω))
    have hzx79:qs x79≤2097300:=by rw [hvx79];omega
    refine ZS [D.v (.bool (cn x79).s),D.v (.string (cn x79).a),D.v (.string (cn x79).d)] _ (Zl hx79) rfl rfl ?_
    refine Za8 (x:=cn x79) (y:=cn x64) ωz ωz fun q81 h81 z81=> ?_
    simp only [cn_z] at z81
    simp only [cn_q] at h81
    refine Zb6 (x:=cn x75) (y:=cn q81) ωz ωz fun q82 h82 z82=> ?_
    simp only [cn_z] at z82
    simp only [cn_q] at h82
    refine k_at_own' (((dvS p q t).2.length - q.length)+i2) ωf (by first|omega|(simp;omega)) ?_
    refine⟨by first|omega|(simp;omega),?_⟩
    refine⟨ωr,?_⟩
    have e79:x79=q55:=Option.some.inj (hx79.symm.trans (List.getElem?_set_self ω))
    have e82:(List.map rdc (sbF (dvS p q t).2 q ((dvS p q t).2.length - q.length) q55 i2)).set (((dvS p q t).2.length - q.length)+i2) (rdc q82)=List.map rdc (sbF (dvS p q t).2 q ((dvS p q t).2.length - q.length) q55 (i2+1)):=by rw [← List.map_set,h82,h81,e79,ZpK hx75 hx64]
    refine⟨i2+1,ω,by simp only;omega,?_⟩
    constructor<;>(repeat' (first|exact rfl|exact True.intro|apply And.intro))
    all_goals first
     |exact e82
     |exact e82.symm
     |exact ωb
     |exact ωa
   ·have f62:¬ ((i2:Int)< ((List.map rdc q).length:Int)):=of_decide_eq_false e3
    refine⟨_,_,_,Zoq (sbF (dvS p q t).2 q ((dvS p q t).2.length - q.length) q55 i2) ⟨by rw [Zaq];omega,fun c hc=>Nat.le_trans (ZrC hBt.2 hq.2 ω c hc) ωd⟩,?_⟩
    have hi2:i2=q.length:=ω
    have ec:q55=lsQ (dvS p q t).2 / lsQ q:=by rw [h55,Zil hx48,Zil hx53]
    have hgo:=ZdF hge
    rw [← ec] at hgo
    have g11:List.map rdc (trP (sbF (dvS p q t).2 q ((dvS p q t).2.length - q.length) q55 i2))=List.map rdc (dvS p q (t+1)).2:=by rw [hi2];exact congrArg (fun s:List Rat×List Rat=>List.map rdc s.2) hgo.symm
    have g19:List.map rdc ((dvS p q t).1.set ((dvS p q t).2.length - q.length) q55)=List.map rdc (dvS p q (t+1)).1:=congrArg (fun s:List Rat×List Rat=>List.map rdc s.1) hgo.symm
    refine⟨t+1,(by have:=ZjO hq0 h0 hge;omega),ZjO hq0 h0 hge,?_⟩
    constructor<;>(repeat' (first|exact rfl|exact True.intro|apply And.intro))
    all_goals first
     |exact g11
     |exact g11.symm
     |exact g19
     |exact g19.symm
     |exact ωb
     |exact ωa
  ·have f34:¬ (((List.map rdc ((dvS p q t).2)).length:Int)≥((List.map rdc q).length:Int)):=of_decide_eq_false e2
   refine Eq.trans (b:= .tup [.one (.d (.list (List.map rdc ((dvS p q t).1)))),.one (.d (.list (List.map rdc ((dvS p q t).2))))]) ?_ rfl
   have hF:dvF p q=dvS p q t:=ZaN ω _ ω
   rw [hF]
   all_goals rfl
end
section
variable {K : AV → Prop}
theorem Zpx (P:List RV) (hP:P.length≤1048576∧∀ y,y∈P→y.z≤1048576):Spec Tryz.prog Tab 119 [.val (.one (.d (.list (List.map rd P))))] (.val (.one (.d (.list (List.map rdc (trQ P)))))):=by
 have hL:(List.map rd P).length=P.length:=List.length_map ..
 have hP1:=hP.1
 refine Zh Tryz.func119 rfl rfl Tryz.ntmps119 rfl ωr rfl rfl ?_
 refine⟨Nat,fun n=> [(0,.val (.one (.d (.list (List.map rd P))))),(3,int (n:Int))],
  fun n=> [],fun n=>n≤P.length∧∀ (j:Nat) (y:RV),n≤j→P[j]? =some y→y.q=0,fun n=>n,P.length,?_,⟨Nat.le_refl _,fun j y hj hy=>by have:=(List.getElem?_eq_some_iff.1 hy).1;omega⟩,fun n hs=> ?_⟩
 ·exact ωe
 have g1:=hs.1
 have g2:=hs.2
 refine fork (fun e1=> ?_) (fun e1=> ?_)
 ·have f10:(n:Int) >0:=of_decide_eq_true e1
  obtain⟨x14,hx14⟩:∃ vv,P[(n - 1)]? =some vv:=⟨_,List.getElem?_eq_getElem ωm⟩
  have hzx14:=hP.2 x14 (List.mem_of_getElem? hx14)
  refine k_ix (n - 1) [D.v (.bool x14.s),D.v (.string x14.a),D.v (.string x14.d)] ωf (Zl hx14) rfl ?_
  refine ZcH (x:=x14) ω fun n16 h16=> ?_
  refine⟨fun e2=> ?_,fun e2=> ?_⟩
  ·have f18:x14.q=0:=(Zav h16).1 (ZL e2)
   refine⟨n - 1,⟨ω,fun j y hj hy=>by
    by_cases e:j=n - 1
    ·subst e;obtain rfl:=Option.some.inj (hx14.symm.trans hy);exact f18
    ·exact g2 j y ω hy⟩,by simp only;omega,?_⟩
   constructor<;>(repeat' (first|exact rfl|exact True.intro|apply And.intro))
   all_goals first
    |exact ωb
    |exact ωa
  ·have f18:¬ (x14.q=0):=fun hh=>ZM e2 ((Zav h16).2 hh)
   refine⟨⟨ω,rfl,(by show ((n:Int))*40≤_;omega),ω⟩,?_⟩
   have hcut:n=0∨∃ y:RV,P[n - 1]? =some y∧y.q≠0:= .inr ⟨x14,hx14,f18⟩
   have hN:(tlQ P n).length=n:=Zcj g1
   have hfl:∀ i,i≤n→(flQ (tlQ P n) i).length=n:=fun i hi=>by rw [Zbh _ ω,hN]
   have hf0:=Zga (tlQ P n) hN
   refine⟨Nat,fun i=> [(0,.val (.one (.d (.list (List.map rd P))))),(4,.val (.one (.row 22 0))),(24,int (n:Int)),(25,int (i:Int))],
    fun i=> [(22,.row 25 3 0 (flQ (tlQ P n) i) true)],fun i=>i≤n,fun i=>n - i,0,?_,Nat.zero_le _,fun i hs=> ?_⟩
   ·constructor<;>(repeat' (first|exact rfl|exact True.intro|exact⟨_,_,rfl⟩|exact ωd|apply And.intro))
    all_goals first
     |exact hf0
     |exact hf0.symm
     |exact congrArg (fun n:Int=>D.v (.int .i64 n)) (by rw [List.length_replicate,Int.toNat_natCast])
     |exact ωa
     |(simp;done)
   have hfi:=hfl i hs
   refine⟨fun e3=> ?_,fun e3=> ?_⟩
   ·have f26:(i:Int)< (n:Int):=of_decide_eq_true e3
    obtain⟨x32,hx32⟩:∃ vv,P[i]? =some vv:=⟨_,List.getElem?_eq_getElem ωm⟩
    have hzx32:=hP.2 x32 (List.mem_of_getElem? hx32)
    refine k_ix i [D.v (.bool x32.s),D.v (.string x32.a),D.v (.string x32.d)] ωf (Zl hx32) rfl ?_
    refine k_ix i [D.v (.bool x32.s),D.v (.string x32.a),D.v (.string x32.d)] ωf (Zl hx32) rfl ?_
    refine Zbw (x:=x32) ω fun q38 h38 z38=> ?_
    simp only [cn_z] at z38
    refine k_at_own' i ωf (by first|omega|(simp;omega)) ?_
    refine⟨by first|omega|(simp;omega),?_⟩
    refine⟨ωr,?_⟩
    have e38:(flQ (tlQ P n) i).set i (rdc q38)=flQ (tlQ P n) (i+1):=by rw [h38];exact Zbg (ZhU hx32 ω)
    refine⟨i+1,ω,by simp only;omega,?_⟩
    constructor<;>(repeat' (first|exact rfl|exact True.intro|apply And.intro))
    all_goals first
     |exact e38
     |exact e38.symm
     |exact ωb
     |exact ωa
   ·have f26:¬ ((i:Int)< (n:Int)):=of_decide_eq_false e3
    refine Eq.trans (b:= .val (.one (.d (.list (flQ (tlQ P n) i))))) ?_ rfl
    obtain rfl:i=n:=ω
    have hT:trQ P=tlQ P i:=by unfold trQ;rw [Zdb P i g1 g2 hcut]
    rw [hT,← Zbi (tlQ P i),hN]
    all_goals rfl
 ·have f10:¬ ((n:Int) >0):=of_decide_eq_false e1
  refine⟨fun e=>absurd e ωd,fun _=> ?_⟩
  refine⟨⟨ω,rfl,(by show ((n:Int))*40≤_;omega),ω⟩,?_⟩
  have hcut:n=0∨∃ y:RV,P[n - 1]? =some y∧y.q≠0:= .inl ω
  have hN:(tlQ P n).length=n:=Zcj g1
  have hfl:∀ i,i≤n→(flQ (tlQ P n) i).length=n:=fun i hi=>by rw [Zbh _ ω,hN]
  have hf0:=Zga (tlQ P n) hN
  refine⟨Nat,fun i=> [(0,.val (.one (.d (.list (List.map rd P))))),(4,.val (.one (.row 22 0))),(24,int (n:Int)),(25,int (i:Int))],
   fun i=> [(22,.row 25 3 0 (flQ (tlQ P n) i) true)],fun i=>i≤n,fun i=>n - i,0,?_,Nat.zero_le _,fun i hs=> ?_⟩
  ·constructor<;>(repeat' (first|exact rfl|exact True.intro|exact⟨_,_,rfl⟩|exact ωd|apply And.intro))
   all_goals first
    |exact hf0
    |exact hf0.symm
    |exact congrArg (fun n:Int=>D.v (.int .i64 n)) (by rw [List.length_replicate,Int.toNat_natCast])
    |exact ωa
    |(simp;done)
  have hfi:=hfl i hs
  refine⟨fun e4=> ?_,fun e4=> ?_⟩
  ·have f26:(i:Int)< (n:Int):=of_decide_eq_true e4
   obtain⟨x32,hx32⟩:∃ vv,P[i]? =some vv:=⟨_,List.getElem?_eq_getElem ωm⟩
   have hzx32:=hP.2 x32 (List.mem_of_getElem? hx32)
   refine k_ix i [D.v (.bool x32.s),D.v (.string x32.a),D.v (.string x32.d)] ωf (Zl hx32) rfl ?_
   refine k_ix i [D.v (.bool x32.s),D.v (.string x32.a),D.v (.string x32.d)] ωf (Zl hx32) rfl ?_
   refine Zbw (x:=x32) ω fun q38 h38 z38=> ?_
   simp only [cn_z] at z38
   refine k_at_own' i ωf (by first|omega|(simp;omega)) ?_
   refine⟨by first|omega|(simp;omega),?_⟩
   refine⟨ωr,?_⟩
   have e38:(flQ (tlQ P n) i).set i (rdc q38)=flQ (tlQ P n) (i+1):=by rw [h38];exact Zbg (ZhU hx32 ω)
   refine⟨i+1,ω,by simp only;omega,?_⟩
   constructor<;>(repeat' (first|exact rfl|exact True.intro|apply And.intro))
   all_goals first
    |exact e38
    |exact e38.symm
    |exact ωb
    |exact ωa
  ·have f26:¬ ((i:Int)< (n:Int)):=of_decide_eq_false e4
   refine Eq.trans (b:= .val (.one (.d (.list (flQ (tlQ P n) i))))) ?_ rfl
   obtain rfl:i=n:=ω
   have hT:trQ P=tlQ P i:=by unfold trQ;rw [Zdb P i g1 g2 hcut]
   rw [hT,← Zbi (tlQ P i),hN]
   all_goals rfl
theorem ZeL (p:List Rat) (hp:p.length≤1048576∧(∀ c,c∈p→qs c≤1099511627776)∧∀ d:Rat,p[p.length - 1]? =some d→d≠0):Spec Tryz.prog Tab 180 [.val (.one (.d (.list (List.map rdc p))))] (.val (.one (.d (.list (List.map rdc (scQ p)))))):=by
 have hL:(List.map rdc p).length=p.length:=List.length_map ..
 have hp1:=hp.1
 refine Zh Tryz.func180 rfl rfl Tryz.ntmps180 rfl ωr rfl rfl ?_
 refine⟨⟨ω,rfl,(by show (((List.map rdc p).length:Int))*40≤_;omega),ω⟩,?_⟩
 have hN:=Zaw p
 have hfl:∀ i,i≤p.length→(flQ (scQ p) i).length=p.length:=fun i hi=>by rw [Zbh _ ω,hN]
 have hf0:List.replicate (((List.map rdc p).length:Int)).toNat (rd z0)=flQ (scQ p) 0:=by rw [hL];exact Zga (scQ p) hN
 refine⟨Nat,fun i=> [(0,.val (.one (.d (.list (List.map rdc p))))),(3,.val (.one (.row 8 0))),(9,.val (.one (.d (.list (List.map rdc p))))),(10,int ((List.map rdc p).length:Int)),(11,int (i:Int))],
  fun i=> [(8,.row 25 3 0 (flQ (scQ p) i) true)],fun i=>i≤p.length,fun i=>p.length - i,0,?_,Nat.zero_le _,fun i hs=> ?_⟩
 ·constructor<;>(repeat' (first|exact rfl|exact True.intro|exact⟨_,_,rfl⟩|exact ωd|apply And.intro))
  all_goals first
   |exact hf0
   |exact hf0.symm
   |exact ωa
   |(simp;done)
 have hfi:=hfl i hs
 refine⟨fun e1=> ?_,fun e1=> ?_⟩
 ·have f12:(i:Int)< ((List.map rdc p).length:Int):=of_decide_eq_true e1
  obtain⟨x14,hx14⟩:∃ vv,p[i]? =some vv:=⟨_,List.getElem?_eq_getElem ωm⟩
  have hzx14:=hp.2.1 x14 (List.mem_of_getElem? hx14)
  refine k_ix i [D.v (.bool (cn x14).s),D.v (.string (cn x14).a),D.v (.string (cn x14).d)] ωf (Zl hx14) rfl ?_
  obtain⟨x24,hx24⟩:∃ vv,p[(p.length - 1)]? =some vv:=⟨_,List.getElem?_eq_getElem ωm⟩
  have hzx24:=hp.2.1 x24 (List.mem_of_getElem? hx24)
  refine k_ix (p.length - 1) [D.v (.bool (cn x24).s),D.v (.string (cn x24).a),D.v (.string (cn x24).d)] ωf (Zl hx24) rfl ?_
  refine Ziw (x:=cn x24) ωz fun q26 h26 z26=> ?_
  simp only [cn_z] at z26
  simp only [cn_q] at h26
  refine Zhp (x:=cn x14) (y:=cn q26) ωz ωz (by rw [cn_q,h26];exact ZmJ (hp.2.2 _ hx24)) fun q27 h27 z27=> ?_
  simp only [cn_z] at z27
  simp only [cn_q] at h27
  refine k_at_own' i ωf (by first|omega|(simp;omega)) ?_
  refine⟨by first|omega|(simp;omega),?_⟩
  refine⟨ωr,?_⟩
  have e27:(flQ (scQ p) i).set i (rdc q27)=flQ (scQ p) (i+1):=by rw [h27,h26];exact Zbg (Zow hx14 hx24)
  refine⟨i+1,ω,by simp only;omega,?_⟩
  constructor<;>(repeat' (first|exact rfl|exact True.intro|apply And.intro))
  all_goals first
   |exact e27
   |exact e27.symm
   |exact ωb
   |exact ωa
 ·have f12:¬ ((i:Int)< ((List.map rdc p).length:Int)):=of_decide_eq_false e1
  refine Eq.trans (b:= .val (.one (.d (.list (flQ (scQ p) i))))) ?_ rfl
  obtain rfl:i=p.length:=ω
  rw [← Zbi (scQ p),hN]
  all_goals rfl
theorem ZiO (p:List Rat) (hp:p.length≤1048576∧∀ c,c∈p→qs c≤1073741824):Spec Tryz.prog Tab 179 [.val (.one (.d (.list (List.map rdc p))))] (.val (.one (.d (.list (List.map rdc (trP (drF p (p.length - 1)))))))):=by
 have hL:(List.map rdc p).length=p.length:=List.length_map ..
 have hp1:=hp.1
 refine ZcJ [22] Tryz.func179 rfl rfl Tryz.ntmps179 rfl ωr rfl rfl ?_
 refine⟨Nat,fun i=> [(0,.val (.one (.d (.list (List.map rdc p))))),(3,.val (.one (.row 20 0))),(4,int ((i:Int)+1))],
  fun i=> [(20,.row 25 3 0 (List.map rdc (drF p i)) true)],fun i=>i≤p.length - 1,fun i=>p.length - 1 - i,0,?_,Nat.zero_le _,fun i hs=> ?_⟩
 ·exact ωe
 have hT:(List.map rdc (drF p i)).length≤1048576:=by rw [List.length_map,ZdG];omega
 refine⟨fun e1=> ?_,fun e1=> ?_⟩
 ·have f8:(i:Int)+1< ((List.map rdc p).length:Int):=of_decide_eq_true e1
  refine k_of ((i:Int)+1) ω ω fun q13 h13 z13=> ?_
  simp only [cn_z] at z13
  obtain⟨x16,hx16⟩:∃ vv,p[(i+1)]? =some vv:=⟨_,List.getElem?_eq_getElem ωm⟩
  have hzx16:=hp.2 x16 (List.mem_of_getElem? hx16)
  refine k_ix (i+1) [D.v (.bool (cn x16).s),D.v (.string (cn x16).a),D.v (.string (cn x16).d)] ωf (Zl hx16) rfl ?_
  refine Za8 (x:=cn q13) (y:=cn x16) ωz ωz fun q18 h18 z18=> ?_
  simp only [cn_z] at z18
  simp only [cn_q] at h18
  refine⟨⟨row1 rfl,(by show ((List.map rdc (drF p i)).length+1)*40≤_;omega),(by show ((List.map rdc (drF p i)).length+1)≤_;omega)⟩,?_⟩
  refine⟨ωr,?_⟩
  have e18:q18=drQ p i:=by rw [ZsG hx16,h18,h13]
  refine⟨i+1,ω,by simp only;omega,?_⟩
  constructor<;>(repeat' (first|exact rfl|exact True.intro|apply And.intro))
  all_goals first
   |(rw [Zn7,← e18];rfl)
   |exact ωb
   |exact ωa
 ·have f8:¬ ((i:Int)+1< ((List.map rdc p).length:Int)):=of_decide_eq_false e1
  refine⟨_,_,_,Zoq (drF p i) ⟨by rw [ZdG];omega,fun c hc=>Nat.le_trans (Zty hp.2 ω c hc) ωd⟩,?_⟩
  refine Eq.trans (b:= .val (.one (.d (.list (List.map rdc (trP (drF p i))))))) ?_ rfl
  obtain rfl:i=p.length - 1:=ω
  rfl
theorem Zj7 (p:List Rat) (hp:p.length≤1048576∧∀ c,c∈p→qs c≤1048576):Spec Tryz.prog Tab 119 [.val (.one (.d (.list (List.map rdc p))))] (.val (.one (.d (.list (List.map rdc (trP p)))))):=by
 rw [ZpT p];exact Zpx (p.map cn) (Zgm hp)
def gdP (p:List Rat):Prop:=∀ d:Rat,p[p.length - 1]? =some d→d≠0
theorem Zdx {p:List Rat} (h:gdP p) (h0:p≠ []):lsQ p≠0:=by
 have hl:p.length - 1< p.length:=by have:=List.length_pos_iff.2 h0;omega
 rw [Zil (List.getElem?_eq_getElem hl)]
 exact h _ (List.getElem?_eq_getElem hl)
theorem ZhT:∀ (P:List RV) (y:RV),0< trN P→P[trN P - 1]? =some y→y.q≠0
 | [],y,h,_=>by simp [trN] at h
 |a :: l,y,h,hy=>by
  by_cases h0:trN l=0
  ·by_cases ha:a.q=0
   ·have:trN (a :: l)=0:=by unfold trN;rw [if_pos h0,if_pos ha]
    omega
   ·have e:trN (a :: l)=1:=by unfold trN;rw [if_pos h0,if_neg ha]
    rw [e] at hy
    obtain rfl:a=y:=by simpa using hy
    exact ha
  ·have e:trN (a :: l)=trN l+1:=by
    show (if trN l=0 then (if a.q=0 then 0 else 1) else trN l+1)=_
    rw [if_neg h0]
   rw [e] at hy
   refine ZhT l y ω ?_
   rw [show trN l+1 - 1=(trN l - 1)+1 by omega,List.getElem?_cons_succ] at hy
   exact hy
theorem Zda (p:List Rat):gdP (trP p):=by
 intro d hd
 have hlen:=Zgy p
 have hpos:0< (trP p).length:=by have:=(List.getElem?_eq_some_iff.1 hd).1;omega
 rw [hlen] at hd hpos
 unfold trP trQ tlQ at hd
 rw [List.getElem?_map,List.getElem?_take_of_lt ω] at hd
 obtain⟨y,hy,rfl⟩:=Option.map_eq_some_iff.1 hd
 exact ZhT (p.map cn) y hpos hy
theorem ZfI {p:List Rat} (h:gdP p):gdP (scQ p):=by
 intro d hd
 rw [Zaw] at hd
 have hl:p.length - 1< p.length:=by have:=(List.getElem?_eq_some_iff.1 hd).1;rw [Zaw] at this;exact this
 have hp:=List.getElem?_eq_getElem hl
 rw [Zow hp hp] at hd
 obtain rfl:=Option.some.inj hd
 have h1:=h _ hp
 have h2:=ZmJ h1
 grind
theorem ZiL (p q:List Rat):∀ t,gdP (dvS p q t).2
 |0=>Zda p
 |t+1=>by
  by_cases h:(dvS p q t).2.length< q.length
  ·rw [ZaN h (t+1) ω];exact ZiL p q t
  ·rw [ZdF h];exact Zda _
theorem Zeq {p q:List Rat} (hq:0< q.length) (h0:lsQ q≠0):(dvF p q).2.length< q.length:=by
 have key:∀ t,(dvS p q t).2.length< q.length∨t+(dvS p q t).2.length≤p.length:=by
  intro t
  induction t with
  |zero=>exact .inr (by have:=Zd1 p;show 0+(trP p).length≤_;omega)
  |succ t ih=>
   by_cases h:(dvS p q t).2.length< q.length
   ·exact .inl (by rw [ZaN h (t+1) ω];exact h)
   ·rcases ih with ih|ih
    ·exact absurd ih h
    ·have:=ZjO hq h0 h;exact .inr ω
 rcases key (p.length+1) with h|h
 ·exact h
 ·omega
def zO (l:List Rat):Prop:=l.length≤1048576∧∀ c,c∈l→qs c≤1048576
def dvZ (p q:List Rat):Prop:=∀ t,(∀ c,c∈(dvS p q t).1→qs c≤1048576)∧∀ c,c∈(dvS p q t).2→qs c≤1048576
def plT (s:List Rat×List Rat):List Rat×List Rat:=if s.2= [] then s else (scQ s.2,(dvF s.1 s.2).2)
def plS (p:List Rat):Nat→List Rat×List Rat
 |0=>(p,trP (drF p (p.length - 1)))
 |t+1=>plT (plS p t)
def plF (p:List Rat):List Rat×List Rat:=plS p p.length
def plQ (p:List Rat):List Rat:=scQ (trP (dvF p (plF p).1).1)
def plZ (p:List Rat):Prop:=(∀ t,zO (plS p t).1∧zO (plS p t).2∧dvZ (plS p t).1 (plS p t).2)∧dvZ p (plF p).1∧zO (dvF p (plF p).1).1
theorem ZfT {p:List Rat} {t:Nat} (h:¬ (plS p t).2= []):plS p (t+1)=(scQ (plS p t).2,(dvF (plS p t).1 (plS p t).2).2):=if_neg h
theorem Zco {p : List Rat} {t : Nat} (h : (plS p t).2 = []) : ∀ n, t ≤ n → plS p n = plS p t := by
  intro n
  induction n with
  | zero => intro hn; obtain rfl : t = 0 := ω
            rfl
  | succ n ih =>
    intro hn
    by_cases e : t = n + 1
    · rw [e]
    · have := ih ω
      show plT (plS p n) = _
      rw [this]; exact if_pos h
theorem ZoE {p:List Rat} (h:gdP p) (h0:p≠ []):∀ t,(gdP (plS p t).1∧(plS p t).1≠ [])∧gdP (plS p t).2
 |0=>⟨⟨h,h0⟩,Zda _⟩
 |t+1=>by
  obtain⟨⟨a1,a2⟩,a3⟩:=ZoE h h0 t
  by_cases e:(plS p t).2= []
  ·rw [Zco e (t+1) ω];exact⟨⟨a1,a2⟩,a3⟩
  ·rw [ZfT e]
   exact⟨⟨ZfI a3,fun g=>e (List.length_eq_zero_iff.1 (by have:=congrArg List.length g;rw [Zaw] at this;exact this))⟩,ZiL _ _ _⟩
theorem ZeK {p:List Rat} (h:zO p) (g:gdP p):p.length≤1048576∧(∀ c,c∈p→qs c≤1099511627776)∧∀ d:Rat,p[p.length - 1]? =some d→d≠0:=⟨h.1,fun c hc=>Nat.le_trans (h.2 c hc) ωd,g⟩
theorem Zrd {p:List Rat} (h:zO p):zO (trP p):=by
 refine⟨Nat.le_trans (Zd1 p) h.1,fun c hc=> ?_⟩
 unfold trP trQ tlQ at hc
 obtain⟨y,hy,rfl⟩:=List.mem_map.1 hc
 obtain⟨d,hd,rfl⟩:=List.mem_map.1 (List.mem_of_mem_take hy)
 rw [cn_q];exact h.2 d hd
theorem ZcC (p:List Rat) (hp0:p≠ []) (hg:gdP p) (hZ:plZ p):Spec Tryz.prog Tab 121 [.val (.one (.d (.list (List.map rdc p))))] (.val (.one (.d (.list (List.map rdc (plQ p)))))):=by
 have hz0:zO p:=(hZ.1 0).1
 refine Zh Tryz.func121 rfl rfl Tryz.ntmps121 rfl ωr rfl rfl ?_
 refine use (ZiO p ⟨hz0.1,fun c hc=>Nat.le_trans (hz0.2 c hc) ωd⟩) rfl ?_
 refine⟨Nat,fun t=> [(0,.val (.one (.d (.list (List.map rdc p))))),(3,.val (.one (.d (.list (List.map rdc ((plS p t).1)))))),(4,.val (.one (.d (.list (List.map rdc ((plS p t).2))))))],
  fun t=> [],fun t=>t+(plS p t).2.length≤p.length,fun t=>(plS p t).2.length,0,?_,(by have:=Zd1 (drF p (p.length - 1));rw [ZdG] at this;show 0+(trP (drF p (p.length - 1))).length≤p.length;omega),fun t hs=> ?_⟩
 ·exact ωe
 have ht:=hs
 have hzt:=hZ.1 t
 have hgt:=ZoE hg hp0 t
 have hLb:(List.map rdc (plS p t).2).length=(plS p t).2.length:=List.length_map ..
 refine⟨fun e1=> ?_,fun e1=> ?_⟩
 ·have f14:((List.map rdc ((plS p t).2)).length:Int) >0:=of_decide_eq_true e1
  have hb0:0< (plS p t).2.length:=ω
  have hne:¬ (plS p t).2= []:=List.length_pos_iff.1 hb0
  refine use (ZbL (plS p t).1 (plS p t).2 hzt.1 hzt.2.1 hb0 (Zdx hgt.2 hne) hzt.2.2) rfl ?_
  refine use (ZeL (plS p t).2 (ZeK hzt.2.1 hgt.2)) rfl ?_
  have hgo:=ZfT hne
  have hlt:=Zeq (p:=(plS p t).1) hb0 (Zdx hgt.2 hne)
  have g1:D.list (List.map rdc (scQ (plS p t).2))=D.list (List.map rdc (plS p (t+1)).1):=by rw [hgo];try rfl
  have g2:D.list (List.map rdc ((dvF (plS p t).1 (plS p t).2).2))=D.list (List.map rdc (plS p (t+1)).2):=by rw [hgo];try rfl
  refine⟨t+1,(by show t+1+(plS p (t+1)).2.length≤p.length;rw [hgo];show t+1+(dvF (plS p t).1 (plS p t).2).2.length≤p.length;omega),(by show (plS p (t+1)).2.length< (plS p t).2.length;rw [hgo];exact hlt),?_⟩
  constructor<;>(repeat' (first|exact rfl|exact True.intro|apply And.intro))
  all_goals first
   |exact g1
   |exact g2
   |exact g1.symm
   |exact g2.symm
   |exact ωb
   |exact ωa
 ·have f14:¬ (((List.map rdc ((plS p t).2)).length:Int) >0):=of_decide_eq_false e1
  have hb1:(plS p t).2= []:=List.length_eq_zero_iff.1 ω
  have hF:plF p=plS p t:=Zco hb1 _ ω
  refine use (ZbL p (plS p t).1 hz0 hzt.1 (List.length_pos_iff.2 hgt.1.2) (Zdx hgt.1.1 hgt.1.2) (by rw [← hF];exact hZ.2.1)) rfl ?_
  refine use (Zj7 (dvF p (plS p t).1).1 (by rw [← hF];exact hZ.2.2)) rfl ?_
  refine use (ZeL (trP (dvF p (plS p t).1).1) (ZeK (Zrd (by rw [← hF];exact hZ.2.2)) (Zda _))) rfl ?_
  refine Eq.trans (b:= .val (.one (.d (.list (List.map rdc (scQ (trP (dvF p (plS p t).1).1))))))) ?_ rfl
  rw [show plQ p=scQ (trP (dvF p (plF p).1).1) from rfl,hF]
  all_goals rfl
end
section
variable {K : AV → Prop}
theorem ZcA {p:List Rat} (h:decide (p.length≤1048576)=true) (g:p.all (fun c=>decide (qs c≤1048576))=true):zO p:=⟨of_decide_eq_true h,fun c hc=>of_decide_eq_true (List.all_eq_true.1 g c hc)⟩
theorem ZsF {p q:List Rat} (n:Nat) (h:(dvS p q n).2.length< q.length) (g:∀ t,t≤n→(∀ c,c∈(dvS p q t).1→qs c≤1048576)∧∀ c,c∈(dvS p q t).2→qs c≤1048576):dvZ p q:=fun t=>by
 by_cases ht:t≤n
 ·exact g t ht
 ·rw [ZaN h t ω];exact g n (Nat.le_refl _)
theorem Ziu {p q a b:List Rat} (hp:zO p) (hq:zO q) (hq0:0< q.length) (h0:lsQ q≠0) (hB:dvZ p q) (h:dvF p q=(a,b)) (k:K (.tup [.one (.d (.list (List.map rdc a))),.one (.d (.list (List.map rdc b)))])):Ask 181 [.val (.one (.d (.list (List.map rdc p)))),.val (.one (.d (.list (List.map rdc q))))] K:=
 use (ZbL p q hp hq hq0 h0 hB) rfl (by rw [h];exact k)
theorem Ziq {p a:List Rat} (hp:zO p) (hg:gdP p) (h:scQ p=a) (k:K (.val (.one (.d (.list (List.map rdc a)))))):Ask 180 [.val (.one (.d (.list (List.map rdc p))))] K:=
 use (ZeL p (ZeK hp hg)) rfl (by rw [h];exact k)
theorem ZoX {p a:List Rat} (hp:zO p) (h:trP (drF p (p.length - 1))=a) (k:K (.val (.one (.d (.list (List.map rdc a)))))):Ask 179 [.val (.one (.d (.list (List.map rdc p))))] K:=
 use (ZiO p ⟨hp.1,fun c hc=>Nat.le_trans (hp.2 c hc) ωd⟩) rfl (by rw [h];exact k)
theorem ZlM {p:List Rat} {d:Rat} (h:p[p.length - 1]? =some d) (hd:d≠0):gdP p:=fun e he=>by rw [h] at he;obtain rfl:=Option.some.inj he;exact hd
theorem zC1:zO [1,0,-1]:=ZcA ωk ωk
theorem zC2:zO [0,-1]:=ZcA ωk ωk
theorem zC3:zO [-1]:=ZcA ωk ωk
theorem zC4:zO [0,-2]:=ZcA ωk ωk
theorem gC3:gdP [-1]:=ZlM (d:=-1) rfl ωk
theorem gC4:gdP [0,-2]:=ZlM (d:=-2) rfl ωk
theorem Zgd {p q:List Rat} (n:Nat) (h:decide ((dvS p q n).2.length< q.length)=true) (g:(List.range (n+1)).all (fun t=>(dvS p q t).1.all (fun c=>decide (qs c≤1048576))&&(dvS p q t).2.all (fun c=>decide (qs c≤1048576)))=true):dvZ p q:=
 ZsF n (of_decide_eq_true h) fun t ht=>by
  have:=List.all_eq_true.1 g t (List.mem_range.2 ω)
  rw [Bool.and_eq_true] at this
  exact⟨fun c hc=>of_decide_eq_true (List.all_eq_true.1 this.1 c hc),fun c hc=>of_decide_eq_true (List.all_eq_true.1 this.2 c hc)⟩
theorem dC1:dvZ [1,0,-1] [0,-1]:=Zgd 3 ωk ωk
theorem dC2:dvZ [0,-1] [-1]:=Zgd 3 ωk ωk
theorem eC1:dvF [1,0,-1] [0,-1]=([0,1], [1]):=by decide+kernel
theorem eC2:dvF [0,-1] [-1]=([0,1], []):=by decide+kernel
theorem lC1:lsQ [0,-1]≠0:=by decide+kernel
theorem lC2:lsQ [-1]≠0:=by decide+kernel
def qIa:Nat→AV
 |0=> .val (.one (.full []))
 |_=> .val (.one (.row 49 0))
def qIo:Nat→List (Nat×Ob)
 |0=> []
 |_=> [(49,.row 25 3 0 [rdc (-1)] true)]
def qOa:Nat→AV
 |0=> .val (.one (.d (.list (List.map rdc [0,-2]))))
 |1=> .val (.one (.row 49 0))
 |_=> .val (.one (.full []))
def qOo:Nat→List (Nat×Ob)
 |1=> [(49,.row 25 3 0 [rdc (-1)] true)]
 |_=> []
def CC (t:Nat):List (List Rat):=match t with
 |0=> [[1,0,-1]]
 |1=> [[1,0,-1], [0,-1]]
 |_=> [[1,0,-1], [0,-1], [-1]]
theorem Zff  :Spec Tryz.prog Tab 120 [.val (.one (.d (.list (List.map rdc ([1,0,-1]:List Rat)))))] (.val (.one (.d (.list (List.map chD ([[1,0,-1], [0,-1], [-1]]:List (List Rat))))))):=by
 have l1:(List.map rdc ([0,-2]:List Rat)).length=2:=rfl
 have l2:(List.map rdc ([1]:List Rat)).length=1:=rfl
 have l3:(List.map rdc ([-1]:List Rat)).length=1:=rfl
 have l4:(List.map chD ([[1,0,-1]]:List (List Rat))).length=1:=rfl
 have l5:(List.map chD ([[1,0,-1], [0,-1]]:List (List Rat))).length=2:=rfl
 have l6:(List.map chD ([[1,0,-1], [0,-1], [-1]]:List (List Rat))).length=3:=rfl
 have l7:(List.map rdc ([]:List Rat)).length=0:=rfl
 have l8:([1]:List Rat).length=1:=rfl
 refine ZcJ [10] Tryz.func120 rfl rfl Tryz.ntmps120 rfl ωr rfl rfl ?_
 refine⟨trivial,?_⟩
 refine ZoX (a:= [0,-2]) zC1 ωk ?_
 refine⟨Nat,fun t=> [(3,.val (.one (.row 10 0))),(4,qOa t)],
  fun t=> [(10,.row 27 1 0 (List.map chD (CC t)) true)]++qOo t,fun t=>t≤2,fun t=>2 - t,0,?_,Nat.zero_le _,fun t hs=> ?_⟩
 ·exact ωe
 rcases (show t=0∨t=1∨t=2 by omega) with rfl|rfl|rfl
 ·refine⟨fun e1=> ?_,fun e1=> ?_⟩
  ·have f15:((List.map rdc ([0,-2]:List Rat)).length:Int) >0:=of_decide_eq_true e1
   refine Ziq (a:= [0,-1]) zC4 gC4 ωk ?_
   refine⟨⟨row1 rfl,(by show ((List.map chD ([[1,0,-1]]:List (List Rat))).length+1)*24≤_;omega),(by show ((List.map chD ([[1,0,-1]]:List (List Rat))).length+1)≤_;omega)⟩,?_⟩
   refine k_at_own' 0 ωf (by first|omega|(simp;done)|decide) ?_
   refine ZS [D.list (List.map rdc ([1,0,-1]:List Rat))] _ rfl rfl rfl ?_
   refine k_at_own' 1 ωf (by first|omega|(simp;done)|decide) ?_
   refine ZS [D.list (List.map rdc ([0,-1]:List Rat))] _ rfl rfl rfl ?_
   refine Ziu zC1 zC2 ωd lC1 dC1 eC1 ?_
   refine⟨ωr,?_⟩
   refine⟨_,⟨rfl,rfl,rfl⟩,?_⟩
   refine⟨Nat,fun i=> [(3,.val (.one (.row 10 0))),(4,qIa i),(39,.val (.one (.d (.list (List.map rdc ([1]:List Rat)))))),(40,int ((List.map rdc ([1]:List Rat)).length:Int)),(41,int (i:Int))],
    fun i=> [(10,.row 27 1 0 (List.map chD ([[1,0,-1]]:List (List Rat))++ [[D.list (List.map rdc ([0,-1]:List Rat))]]) true)]++qIo i,fun i=>i≤1,fun i=>1 - i,0,?_,Nat.zero_le _,fun i hs=> ?_⟩
   ·exact ωe
   rcases (show i=0∨i=1 by omega) with rfl|rfl
   ·refine⟨fun e2=> ?_,fun e2=> ?_⟩
    ·have f42:0< ((List.map rdc ([1]:List Rat)).length:Int):=of_decide_eq_true e2
     obtain⟨x43,hx43⟩:∃ vv,([1]:List Rat)[0]? =some vv:=⟨_,List.getElem?_eq_getElem ωm⟩
     have e43:x43=1:=(Option.some.inj hx43).symm
     have hz43:qs x43≤8:=by rw [e43];decide+kernel
     refine k_ix 0 [D.v (.bool (cn x43).s),D.v (.string (cn x43).a),D.v (.string (cn x43).d)] ωf (Zl hx43) rfl ?_
     refine ZbG (x:=cn x43) ωz fun q47 h47 z47=> ?_
     simp only [cn_z] at z47
     simp only [cn_q] at h47
     have e47:q47=-1:=by rw [h47,e43]
     clear h47
     subst e47
     refine⟨⟨Nat.zero_lt_succ _,(fun r hr=>by simp at hr),row1 rfl,(by show (0+1)*40≤_;omega),(by show 0+1≤_;omega)⟩,?_⟩
     refine⟨1,ω,by simp only;omega,?_⟩
     constructor<;>(repeat' (first|exact rfl|exact True.intro|apply And.intro))
     all_goals first
      |exact ωb
      |exact ωa
    ·have f42:¬ (0< ((List.map rdc ([1]:List Rat)).length:Int)):=of_decide_eq_false e2
     exfalso
     omega
   ·refine⟨fun e3=> ?_,fun e3=> ?_⟩
    ·have f42:1< ((List.map rdc ([1]:List Rat)).length:Int):=of_decide_eq_true e3
     exfalso
     omega
    ·have f42:¬ (1< ((List.map rdc ([1]:List Rat)).length:Int)):=of_decide_eq_false e3
     refine⟨1,ω,by simp only;omega,?_⟩
     constructor<;>(repeat' (first|exact rfl|exact True.intro|apply And.intro))
     all_goals first
      |exact ωb
      |exact ωa
  ·have f15:¬ (((List.map rdc ([0,-2]:List Rat)).length:Int) >0):=of_decide_eq_false e1
   exfalso
   omega
 ·refine⟨fun e4=> ?_,fun e4=> ?_⟩
  ·have f15:((List.map rdc ([-1]:List Rat)).length:Int) >0:=of_decide_eq_true e4
   refine Ziq (p:= [-1]) (a:= [-1]) zC3 gC3 ωk ?_
   refine⟨⟨row1 rfl,(by show ((List.map chD ([[1,0,-1], [0,-1]]:List (List Rat))).length+1)*24≤_;omega),(by show ((List.map chD ([[1,0,-1], [0,-1]]:List (List Rat))).length+1)≤_;omega)⟩,?_⟩
   refine k_at_own' 1 ωf (by first|omega|(simp;done)|decide) ?_
   refine ZS [D.list (List.map rdc ([0,-1]:List Rat))] _ rfl rfl rfl ?_
   refine k_at_own' 2 ωf (by first|omega|(simp;done)|decide) ?_
   refine ZS [D.list (List.map rdc ([-1]:List Rat))] _ rfl rfl rfl ?_
   refine Ziu zC2 zC3 ωd lC2 dC2 eC2 ?_
   refine⟨ωr,?_⟩
   refine⟨_,⟨rfl,rfl,rfl⟩,?_⟩
   refine⟨Nat,fun i=> [(3,.val (.one (.row 10 0))),(4,.val (.one (.full ([])))),(39,.val (.one (.d (.list (List.map rdc ([]:List Rat)))))),(40,int ((List.map rdc ([]:List Rat)).length:Int)),(41,int (i:Int))],
    fun i=> [(10,.row 27 1 0 (List.map chD ([[1,0,-1], [0,-1]]:List (List Rat))++ [[D.list (List.map rdc ([-1]:List Rat))]]) true)],fun i=>i=0,fun i=>1 - i,0,?_,rfl,fun i hs=> ?_⟩
   ·exact ωe
   refine⟨fun e5=> ?_,fun e5=> ?_⟩
   ·have f42:(i:Int)< ((List.map rdc ([]:List Rat)).length:Int):=of_decide_eq_true e5
    exfalso
    omega
   ·have f42:¬ ((i:Int)< ((List.map rdc ([]:List Rat)).length:Int)):=of_decide_eq_false e5
    refine⟨2,ω,by simp only;omega,?_⟩
    constructor<;>(repeat' (first|exact rfl|exact True.intro|apply And.intro))
    all_goals first
     |exact ωb
     |exact ωa
  ·have f15:¬ (((List.map rdc ([-1]:List Rat)).length:Int) >0):=of_decide_eq_false e4
   exfalso
   omega
 ·refine⟨fun e6=> ?_,fun e6=> ?_⟩
  ·have f15:(([]).length:Int) >0:=of_decide_eq_true e6
   exfalso
   exact absurd f15 ωd
  ·have f15:¬ ((([]).length:Int) >0):=of_decide_eq_false e6
   refine Eq.trans (b:= .val (.one (.d (.list (List.map chD ([[1,0,-1], [0,-1], [-1]]:List (List Rat))))))) ?_ rfl
   rfl
end
section
variable {K : AV → Prop}
theorem zP0:zO [-1,0,1]:=ZcA ωk ωk
theorem plP1:plS [-1,0,1] 1=([0,1], [-1]):=by decide+kernel
theorem plP2:plS [-1,0,1] 2=([-1], []):=by decide+kernel
theorem dvP0:dvZ [-1,0,1] [0,2]:=Zgd 3 ωk ωk
theorem dvP1:dvZ [0,1] [-1]:=Zgd 3 ωk ωk
theorem dvP3:dvZ [-1,0,1] [-1]:=Zgd 4 ωk ωk
theorem dvP2:dvZ [-1] []:=fun t=>by
 have e:∀ t,dvS [-1] [] t=([0,0], [-1]):=fun t=>by
  induction t with
  |zero=>decide+kernel
  |succ t ih=>show dvT [] (dvS [-1] [] t)=_;rw [ih];decide+kernel
 rw [e]
 exact⟨fun c hc=>by simp only [List.mem_cons,List.not_mem_nil,or_false] at hc;rcases hc with rfl|rfl<;>decide+kernel,fun c hc=>by simp only [List.mem_cons,List.not_mem_nil,or_false] at hc;subst hc;decide+kernel⟩
theorem plP0:plS [-1,0,1] 0=([-1,0,1], [0,2]):=by decide+kernel
theorem Zq7:zO []:=⟨ωd,fun c hc=>by simp at hc⟩
theorem plZC:plZ [-1,0,1]:=by
 have h2:∀ t,2≤t→plS [-1,0,1] t=([-1], []):=fun t ht=>by rw [Zco (t:=2) (by rw [plP2]) t ht];exact plP2
 have hF:plF [-1,0,1]=([-1], []):=h2 _ ωd
 refine⟨fun t=> ?_,by rw [hF];exact dvP3,by rw [hF];exact ZcA ωk ωk⟩
 rcases (show t=0∨t=1∨2≤t by omega) with rfl|rfl|h
 ·rw [plP0];exact⟨zP0,ZcA ωk ωk,dvP0⟩
 ·rw [plP1];exact⟨ZcA ωk ωk,zC3,dvP1⟩
 ·rw [h2 t h];exact⟨zC3,Zq7,dvP2⟩
theorem plQC:plQ [-1,0,1]= [1,0,-1]:=by decide+kernel
theorem chZC:chZ [[1,0,-1], [0,-1], [-1]]:=⟨ωd,fun p hp=>by
 simp only [List.mem_cons,List.not_mem_nil,or_false] at hp
 rcases hp with rfl|rfl|rfl
 ·exact zC1
 ·exact zC2
 ·exact zC3⟩
theorem ZnR (k:K (.val (.one (.d (.list (List.map rdc [1,0,-1])))))):Ask 121 [.val (.one (.d (.list (List.map rdc [-1,0,1]))))] K:=
 use (ZcC [-1,0,1] (by simp) (ZlM (d:=1) rfl ωk) plZC) rfl (by rw [plQC];exact k)
theorem Zqh (k:K (.val (.one (.d (.list (List.map rdc [-1,0,1])))))):Ask 119 [.val (.one (.d (.list (List.map rdc [-1,0,1]))))] K:=
 use (Zj7 [-1,0,1] zP0) rfl (by rw [show trP [-1,0,1]= [-1,0,1] from by decide+kernel];exact k)
abbrev cH:List (List Rat):= [[1,0,-1], [0,-1], [-1]]
theorem Zlz {x y:Rat} {n:Int} (hx:qs x≤1048576) (hy:qs y≤1048576) (h:ctN cH x y=n) (k:K (int n)):Ask 55 [.val (.one (.d (.list (List.map chD cH)))),pair (cn x) (cn y)] K:=
 Ze2 chZC (by rw [cn_z];exact hx) (by rw [cn_z];exact hy) ωd (cn_q x) (cn_q y) (by rw [h];exact k)
theorem Zqf {x:Rat} (hx:qs x≤1048576) (h:¬ evP ((cH[0]?).getD []) x=0) (k:K (bool false)):Ask 123 [.val (.one (.d (.list (List.map chD cH)))),rat (cn x)] K:=
 Zhk chZC (by rw [cn_z];exact hx) ωd (cn_q x) (by rw [decide_eq_false h];exact k)
theorem Zsm {x y m:Rat} (hx:qs x≤1048576) (hy:qs y≤1048576) (h:mdQ x y=m) (k:K (rat (cn m))):Ask 122 [pair (cn x) (cn y)] K:=
 Ze0 ωn ωn fun q hq _=>by rw [hq,cn_q,cn_q,h];exact k
theorem hv_l {x y m:Rat} (hm:mdQ x y=m) (h0:¬ evP ((cH[0]?).getD []) m=0) (hc:ctN cH x m=1):hvS cH (cn x) (cn y)=(cn x,cn m):=by
 subst hm
 have e:=Zqv (C:=cH) (x:=cn x) (y:=cn y) (by rw [cn_q,cn_q];exact h0) (by rw [cn_q,cn_q];exact hc)
 rw [cn_q,cn_q] at e;exact e
theorem hv_r {x y m:Rat} (hm:mdQ x y=m) (h0:¬ evP ((cH[0]?).getD []) m=0) (hc:¬ ctN cH x m=1):hvS cH (cn x) (cn y)=(cn m,cn y):=by
 subst hm
 have e:=Zqu (C:=cH) (x:=cn x) (y:=cn y) (by rw [cn_q,cn_q];exact h0) (by rw [cn_q,cn_q];exact hc)
 rw [cn_q,cn_q] at e;exact e
theorem ZnU {x y a b:Rat} (hx:qs x≤400000) (hy:qs y≤400000) (h:hvS cH (cn x) (cn y)=(cn a,cn b)) (k:K (pair (cn a) (cn b))):Ask 52 [.val (.one (.d (.list (List.map chD cH)))),pair (cn x) (cn y)] K:=
 use (Zel cH (cn x) (cn y) chZC (by rw [cn_z];exact hx) (by rw [cn_z];exact hy) ωd) rfl (by rw [h];exact k)
def h1:Rat:=-3 / 2
def h2:Rat:=3 / 2
def h3:Rat:=-3 / 4
def h4:Rat:=3 / 4
def RR:Nat→List (RV×RV)
 |0=> [(cn (-3),cn 0),(cn 0,cn 3)]
 |1=> [(cn h1,cn 0),(cn 0,cn h2)]
 |_=> [(cn h1,cn h3),(cn h4,cn h2)]
def msQ:Nat→Rat
 |0=>1
 |1=>2
 |2=>2
 |_=>3
theorem Zg1  :Spec Tryz.prog Tab 49 [.val (.one (.d (.list (List.map rdc ([-1,0,1]:List Rat)))))] (.tup [.one (.d (.list (List.map chD ([[1,0,-1], [0,-1], [-1]]:List (List Rat))))),.one (.d (.v (.int .i64 (0))))]):=by
 have l1:(List.map rdc ([-1,0,1]:List Rat)).length=3:=rfl
 refine Zh Tryz.func49 rfl rfl Tryz.ntmps49 rfl ωr rfl rfl ?_
 refine Zqh ?_
 refine⟨fun e1=> ?_,fun e1=> ?_⟩
 ·have f6:((List.map rdc ([-1,0,1]:List Rat)).length:Int)=0:=ZL e1
  exfalso
  omega
 ·have f6:¬ (((List.map rdc ([-1,0,1]:List Rat)).length:Int)=0):=ZM e1
  refine⟨fun e2=> ?_,fun e2=> ?_⟩
  ·have f10:((List.map rdc ([-1,0,1]:List Rat)).length:Int) >13:=of_decide_eq_true e2
   exfalso
   omega
  ·have f10:¬ (((List.map rdc ([-1,0,1]:List Rat)).length:Int) >13):=of_decide_eq_false e2
   refine ZnR ?_
   refine use Zff rfl ?_
   refine Eq.trans (b:= .tup [.one (.d (.list (List.map chD ([[1,0,-1], [0,-1], [-1]]:List (List Rat))))),.one (.d (.v (.int .i64 (0))))]) ?_ rfl
   rfl
theorem ZgF  :SpecR Tryz.prog Tab 51 [.val (.one (.d (.list (List.map chD ([[1,0,-1], [0,-1], [-1]]:List (List Rat)))))),.val (.one (.d (.v (.slice none 0 0)))),pair (cn (-3)) (cn 0)] 40 6 (List.map rdv [(cn (-3),cn 0)]):=by
 refine ZlV Tryz.func51 rfl rfl Tryz.ntmps51 rfl ωr rfl rfl ?_
 refine Zlz (n:=1) ωk ωk ωk ?_
 refine⟨fun e=>absurd e ωd,fun _=> ?_⟩
 refine⟨fun _=> ?_,fun e=>absurd e ωd⟩
 refine⟨⟨row1 rfl,(by show 1*80≤_;omega),(by show 1≤_;omega)⟩,?_⟩
 exact rfl
theorem ZmT  :SpecT Tryz.prog Tab 51 [.val (.one (.d (.list (List.map chD ([[1,0,-1], [0,-1], [-1]]:List (List Rat)))))),.val (.one (.row 1000 0)),pair (cn 0) (cn 3)] 40 6 (List.map rdv [(cn (-3),cn 0)]) 40 6 (List.map rdv [(cn (-3),cn 0),(cn 0,cn 3)]):=by
 have l1:(List.map rdv [(cn (-3),cn 0)]).length=1:=rfl
 refine fn_T [] Tryz.func51 rfl rfl Tryz.ntmps51 rfl ωr rfl rfl ?_
 refine Zlz (n:=1) ωk ωk ωk ?_
 refine⟨fun e=>absurd e ωd,fun _=> ?_⟩
 refine⟨fun _=> ?_,fun e=>absurd e ωd⟩
 refine⟨⟨row1 rfl,(by show ((List.map rdv [(cn (-3),cn 0)]).length+1)*80≤_;omega),(by show ((List.map rdv [(cn (-3),cn 0)]).length+1)≤_;omega)⟩,?_⟩
 exact rfl
theorem ZgE  :SpecR Tryz.prog Tab 51 [.val (.one (.d (.list (List.map chD ([[1,0,-1], [0,-1], [-1]]:List (List Rat)))))),.val (.one (.d (.v (.slice none 0 0)))),pair (cn (-3)) (cn 3)] 40 6 (List.map rdv [(cn (-3),cn 0),(cn 0,cn 3)]):=by
 refine Zdz [38,43] Tryz.func51 rfl rfl Tryz.ntmps51 rfl ωr rfl rfl ?_
 refine Zlz (n:=2) ωk ωk ωk ?_
 refine⟨fun e=>absurd e ωd,fun _=> ?_⟩
 refine⟨fun e=>absurd e ωd,fun _=> ?_⟩
 refine Zsm (m:=0) ωk ωk ωk ?_
 refine Zqf ωk ωk ?_
 refine⟨fun _=> ?_,fun e=>absurd e ωd⟩
 refine useN ZgF ?_
 refine⟨_,_,_,ZmT,?_⟩
 refine⟨ωr,?_⟩
 exact rfl
end
section
variable {K : AV → Prop}
theorem Zp6 {i:Nat} {x:Rat} (h:([1,0,-1]:List Rat)[i]? =some x):msQ i+absV x=msQ (i+1):=by
 rcases i with _|_|_|i
 ·obtain rfl:(1:Rat)=x:=Option.some.inj h
  decide+kernel
 ·obtain rfl:(0:Rat)=x:=Option.some.inj h
  decide+kernel
 ·obtain rfl:(-1:Rat)=x:=Option.some.inj h
  decide+kernel
 ·simp at h
theorem ms_z:∀ i,qs (msQ i)≤100
 |0=>by decide+kernel
 |1=>by decide+kernel
 |2=>by decide+kernel
 |_+3=>by show qs (3:Rat)≤100;decide+kernel
theorem Zg0  :Spec Tryz.prog Tab 14 [.val (.one (.d (.list (List.map rdc ([-1,0,1]:List Rat)))))] (.tup [.one (.d (.list (List.map rdv (RR 2)))),.one (.d (.v (.int .i64 (0))))]):=by
 have l1:(List.map rdc ([1,0,-1]:List Rat)).length=3:=rfl
 have l2:([1,0,-1]:List Rat).length=3:=rfl
 have l3:∀ k,(List.map rdv (RR k)).length=2:=fun k=>by rcases k with _|_|k<;>rfl
 have l4:=l3 0
 have l5:=l3 1
 have l6:=l3 2
 have r0:(RR 0).length=2:=rfl
 have r1:(RR 1).length=2:=rfl
 have r2:(RR 2).length=2:=rfl
 refine ZcJ [38] Tryz.func14 rfl rfl Tryz.ntmps14 rfl ωr rfl rfl ?_
 refine use Zg1 rfl ?_
 refine⟨fun e=>absurd e ωd,fun _=> ?_⟩
 refine k_of (1) ω ω fun q19 h19 z19=> ?_
 simp only [cn_z] at z19
 refine k_ix 0 [D.list (List.map rdc ([1,0,-1]:List Rat))] ωf rfl rfl ?_
 have e19:q19=msQ 0:=h19
 refine⟨Nat,fun i=> [(4,.val (.one (.d (.list (List.map chD ([[1,0,-1], [0,-1], [-1]]:List (List Rat))))))),(6,.val (.one (.ptr 6 0))),(22,.val (.one (.d (.list (List.map rdc ([1,0,-1]:List Rat)))))),(23,int ((List.map rdc ([1,0,-1]:List Rat)).length:Int)),(24,int (i:Int))],
  fun i=> [(6,.var 25 [.d (.v (.bool (cn (msQ i)).s)),.d (.v (.string (cn (msQ i)).a)),.d (.v (.string (cn (msQ i)).d))])],fun i=>i≤3,fun i=>3 - i,0,?_,Nat.zero_le _,fun i hs=> ?_⟩
 ·constructor<;>(repeat' (first|exact rfl|exact True.intro|exact⟨_,_,rfl⟩|exact ωd|apply And.intro))
  all_goals first
   |exact congrArg (fun q:Rat=>D.v (.bool (cn q).s)) e19
   |exact congrArg (fun q:Rat=>D.v (.bool (cn q).s)) e19.symm
   |exact congrArg (fun q:Rat=>D.v (.string (cn q).a)) e19
   |exact congrArg (fun q:Rat=>D.v (.string (cn q).a)) e19.symm
   |exact congrArg (fun q:Rat=>D.v (.string (cn q).d)) e19
   |exact congrArg (fun q:Rat=>D.v (.string (cn q).d)) e19.symm
   |exact ωa
   |(simp;done)
 have hmz:=ms_z i
 refine⟨fun e1=> ?_,fun e1=> ?_⟩
 ·have f25:(i:Int)< ((List.map rdc ([1,0,-1]:List Rat)).length:Int):=of_decide_eq_true e1
  obtain⟨x26,hx26⟩:∃ vv,([1,0,-1]:List Rat)[i]? =some vv:=⟨_,List.getElem?_eq_getElem ωm⟩
  have hzx26:qs x26≤8:=by
   have:=List.mem_of_getElem? hx26
   simp only [List.mem_cons,List.not_mem_nil,or_false] at this
   rcases this with rfl|rfl|rfl<;>decide+kernel
  refine k_ix i [D.v (.bool (cn x26).s),D.v (.string (cn x26).a),D.v (.string (cn x26).d)] ωf (Zl hx26) rfl ?_
  refine Ziw (x:=cn x26) ωz fun q30 h30 z30=> ?_
  simp only [cn_z] at z30
  simp only [cn_q] at h30
  refine Za9 (x:=cn (msQ i)) (y:=cn q30) ωz ωz fun q31 h31 z31=> ?_
  simp only [cn_z] at z31
  simp only [cn_q] at h31
  refine⟨ωr,?_⟩
  have e31:q31=msQ (i+1):=by rw [h31,h30,Zp6 hx26]
  refine⟨i+1,ω,by simp only;omega,?_⟩
  constructor<;>(repeat' (first|exact rfl|exact True.intro|apply And.intro))
  all_goals first
   |exact congrArg (fun q:Rat=>D.v (.bool (cn q).s)) e31
   |exact congrArg (fun q:Rat=>D.v (.bool (cn q).s)) e31.symm
   |exact congrArg (fun q:Rat=>D.v (.string (cn q).a)) e31
   |exact congrArg (fun q:Rat=>D.v (.string (cn q).a)) e31.symm
   |exact congrArg (fun q:Rat=>D.v (.string (cn q).d)) e31
   |exact congrArg (fun q:Rat=>D.v (.string (cn q).d)) e31.symm
   |exact ωb
   |exact ωa
 ·have f25:¬ ((i:Int)< ((List.map rdc ([1,0,-1]:List Rat)).length:Int)):=of_decide_eq_false e1
  refine ZbG (x:=cn (msQ i)) ωz fun q35 h35 z35=> ?_
  simp only [cn_z] at z35
  simp only [cn_q] at h35
  obtain rfl:i=3:=ω
  have e35:q35=-3:=h35
  clear h35
  subst e35
  refine useN ZgE ?_
  refine⟨ωr,?_⟩
  refine⟨Nat,fun j=> [(4,.val (.one (.d (.list (List.map chD ([[1,0,-1], [0,-1], [-1]]:List (List Rat))))))),(9,.val (.one (.row 38 0))),(10,int ((j:Int)+1))],
   fun j=> [(38,.row 40 6 0 (List.map rdv (RR (2*j))) true)],fun j=>j≤1,fun j=>1 - j,0,?_,Nat.zero_le _,fun j hs=> ?_⟩
  ·exact ωe
  rcases (show j=0∨j=1 by omega) with rfl|rfl
  ·refine⟨fun e2=> ?_,fun e2=> ?_⟩
   ·have f42:1< ((List.map rdv (RR 0)).length:Int):=of_decide_eq_true e2
    refine⟨Nat,fun k=> [(4,.val (.one (.d (.list (List.map chD ([[1,0,-1], [0,-1], [-1]]:List (List Rat))))))),(9,.val (.one (.row 38 0))),(10,int 1)],
     fun k=> [(38,.row 40 6 0 (List.map rdv (RR k)) true)],fun k=>k≤2,fun k=>2 - k,0,?_,Nat.zero_le _,fun k hs=> ?_⟩
    ·exact ωe
    rcases (show k=0∨k=1∨k=2 by omega) with rfl|rfl|rfl
    ·refine k_at_own' 0 ωf (by first|omega|(simp;done)|decide) ?_
     refine ZS [D.v (.bool (cn (-3)).s),D.v (.string (cn (-3)).a),D.v (.string (cn (-3)).d),D.v (.bool (cn 0).s),D.v (.string (cn 0).a),D.v (.string (cn 0).d)] _ rfl rfl rfl ?_
     refine k_at_own' 1 ωf (by first|omega|(simp;done)|decide) ?_
     refine ZS [D.v (.bool (cn 0).s),D.v (.string (cn 0).a),D.v (.string (cn 0).d),D.v (.bool (cn 3).s),D.v (.string (cn 3).a),D.v (.string (cn 3).d)] _ rfl rfl rfl ?_
     refine ZcO (x:=cn 0) (y:=cn 0) ωc ωc fun n56 h56=> ?_
     obtain rfl:n56=0:=by rw [h56];simp only [cn_q];decide+kernel
     refine⟨ωr,?_⟩
     refine⟨fun _=> ?_,fun e=>absurd e ωd⟩
     refine k_at_own' 0 ωf (by first|omega|(simp;done)|decide) ?_
     refine ZS [D.v (.bool (cn (-3)).s),D.v (.string (cn (-3)).a),D.v (.string (cn (-3)).d),D.v (.bool (cn 0).s),D.v (.string (cn 0).a),D.v (.string (cn 0).d)] _ rfl rfl rfl ?_
     refine ZnU (a:=h1) (b:=0) ωk ωk (hv_r ωk ωk ωk) ?_
     refine k_at_own' 1 ωf (by first|omega|(simp;done)|decide) ?_
     refine ZS [D.v (.bool (cn 0).s),D.v (.string (cn 0).a),D.v (.string (cn 0).d),D.v (.bool (cn 3).s),D.v (.string (cn 3).a),D.v (.string (cn 3).d)] _ rfl rfl rfl ?_
     refine ZnU (a:=0) (b:=h2) ωk ωk (hv_l ωk ωk ωk) ?_
     refine k_at_own' 0 ωf (by first|omega|(simp;done)|decide) ?_
     refine⟨by first|omega|(simp;omega),?_⟩
     refine k_at_own' 1 ωf (by first|omega|(simp;done)|decide) ?_
     refine⟨by first|omega|(simp;omega),?_⟩
     refine⟨ωr,?_⟩
     refine⟨1,ω,by simp only;omega,?_⟩
     constructor<;>(repeat' (first|exact rfl|exact True.intro|apply And.intro))
     all_goals first
      |exact ωb
      |exact ωa
    ·refine k_at_own' 0 ωf (by first|omega|(simp;done)|decide) ?_
     refine ZS [D.v (.bool (cn h1).s),D.v (.string (cn h1).a),D.v (.string (cn h1).d),D.v (.bool (cn 0).s),D.v (.string (cn 0).a),D.v (.string (cn 0).d)] _ rfl rfl rfl ?_
     refine k_at_own' 1 ωf (by first|omega|(simp;done)|decide) ?_
     refine ZS [D.v (.bool (cn 0).s),D.v (.string (cn 0).a),D.v (.string (cn 0).d),D.v (.bool (cn h2).s),D.v (.string (cn h2).a),D.v (.string (cn h2).d)] _ rfl rfl rfl ?_
     refine ZcO (x:=cn 0) (y:=cn 0) ωc ωc fun n56 h56=> ?_
     obtain rfl:n56=0:=by rw [h56];simp only [cn_q];decide+kernel
     refine⟨ωr,?_⟩
     refine⟨fun _=> ?_,fun e=>absurd e ωd⟩
     refine k_at_own' 0 ωf (by first|omega|(simp;done)|decide) ?_
     refine ZS [D.v (.bool (cn h1).s),D.v (.string (cn h1).a),D.v (.string (cn h1).d),D.v (.bool (cn 0).s),D.v (.string (cn 0).a),D.v (.string (cn 0).d)] _ rfl rfl rfl ?_
     refine ZnU (a:=h1) (b:=h3) ωk ωk (hv_l ωk ωk ωk) ?_
     refine k_at_own' 1 ωf (by first|omega|(simp;done)|decide) ?_
     refine ZS [D.v (.bool (cn 0).s),D.v (.string (cn 0).a),D.v (.string (cn 0).d),D.v (.bool (cn h2).s),D.v (.string (cn h2).a),D.v (.string (cn h2).d)] _ rfl rfl rfl ?_
     refine ZnU (a:=h4) (b:=h2) ωk ωk (hv_r ωk ωk ωk) ?_
     refine k_at_own' 0 ωf (by first|omega|(simp;done)|decide) ?_
     refine⟨by first|omega|(simp;omega),?_⟩
     refine k_at_own' 1 ωf (by first|omega|(simp;done)|decide) ?_
     refine⟨by first|omega|(simp;omega),?_⟩
     refine⟨ωr,?_⟩
     refine⟨2,ω,by simp only;omega,?_⟩
     constructor<;>(repeat' (first|exact rfl|exact True.intro|apply And.intro))
     all_goals first
      |exact ωb
      |exact ωa
    ·refine k_at_own' 0 ωf (by first|omega|(simp;done)|decide) ?_
     refine ZS [D.v (.bool (cn h1).s),D.v (.string (cn h1).a),D.v (.string (cn h1).d),D.v (.bool (cn h3).s),D.v (.string (cn h3).a),D.v (.string (cn h3).d)] _ rfl rfl rfl ?_
     refine k_at_own' 1 ωf (by first|omega|(simp;done)|decide) ?_
     refine ZS [D.v (.bool (cn h4).s),D.v (.string (cn h4).a),D.v (.string (cn h4).d),D.v (.bool (cn h2).s),D.v (.string (cn h2).a),D.v (.string (cn h2).d)] _ rfl rfl rfl ?_
     refine ZcO (x:=cn h3) (y:=cn h4) ωc ωc fun n56 h56=> ?_
     obtain rfl:n56=(-1):=by rw [h56];simp only [cn_q];decide+kernel
     refine⟨ωr,?_⟩
     refine⟨fun e=>absurd e ωd,fun _=> ?_⟩
     refine⟨1,ω,by simp only;omega,?_⟩
     constructor<;>(repeat' (first|exact rfl|exact True.intro|apply And.intro))
     all_goals first
      |exact ωb
      |exact ωa
   ·have f42:¬ (1< ((List.map rdv (RR 0)).length:Int)):=of_decide_eq_false e2
    exfalso
    omega
  ·refine⟨fun e3=> ?_,fun e3=> ?_⟩
   ·have f42:2< ((List.map rdv (RR 2)).length:Int):=of_decide_eq_true e3
    exfalso
    omega
   ·have f42:¬ (2< ((List.map rdv (RR 2)).length:Int)):=of_decide_eq_false e3
    refine Eq.trans (b:= .tup [.one (.d (.list (List.map rdv (RR 2)))),.one (.d (.v (.int .i64 (0))))]) ?_ rfl
    rfl
end
