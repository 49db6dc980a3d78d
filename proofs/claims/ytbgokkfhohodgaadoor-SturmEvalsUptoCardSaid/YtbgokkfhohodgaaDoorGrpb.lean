/- Joined by wip/bundle.py: XStuE XStuF XStuG XLawStE. -/
import Derived.Test.YtbgokkfhohodgaaDoorGrpa
import Derived.Test.YtbgokkfhohodgaaDoorGrpS
import Derived.Test.YtbgokkfhohodgaaDoorGrpP
import Derived.Test.YtbgokkfhohodgaaDoorOpenA
set_option maxRecDepth 100000
namespace Go.Proofs.YtbgokkfhohodgaaDoor.eng
open Go.RowKit num mem seg q held ratA ratB ratC ratD ratE vars ratF trq
section
variable {K : AV → Prop}
theorem Zbt {p:List Rat} (h:decide (p.length≤1048576)=true) (g:p.all (fun c=>decide (qs c≤1048576))=true):zO p:=⟨of_decide_eq_true h,fun c hc=>of_decide_eq_true (List.all_eq_true.1 g c hc)⟩
theorem Zki {p q:List Rat} (n:Nat) (h:(dvS p q n).2.length< q.length) (g:∀ t,t≤n→(∀ c,c∈(dvS p q t).1→qs c≤1048576)∧∀ c,c∈(dvS p q t).2→qs c≤1048576):dvZ p q:=fun t=>by
 by_cases ht:t≤n
 ·exact g t ht
 ·rw [Zbq h t (by omega)];exact g n (Nat.le_refl _)
theorem Zi1 {p q a b:List Rat} (hp:zO p) (hq:zO q) (hq0:0< q.length) (h0:lsQ q≠0) (hB:dvZ p q) (h:dvF p q=(a,b)) (k:K (.tup [.one (.d (.list (List.map rdc a))),.one (.d (.list (List.map rdc b)))])):Ask 196 [.val (.one (.d (.list (List.map rdc p)))),.val (.one (.d (.list (List.map rdc q))))] K:=
 use (Za4 p q hp hq hq0 h0 hB) rfl (by rw [h];exact k)
theorem ZiX {p a:List Rat} (hp:zO p) (hg:gdP p) (h:scQ p=a) (k:K (.val (.one (.d (.list (List.map rdc a)))))):Ask 195 [.val (.one (.d (.list (List.map rdc p))))] K:=
 use (ZcT p (ZcS hp hg)) rfl (by rw [h];exact k)
theorem Zkb {p a:List Rat} (hp:zO p) (h:trP (drF p (p.length - 1))=a) (k:K (.val (.one (.d (.list (List.map rdc a)))))):Ask 194 [.val (.one (.d (.list (List.map rdc p))))] K:=
 use (Zfq p ⟨hp.1,fun c hc=>Nat.le_trans (hp.2 c hc) (by decide)⟩) rfl (by rw [h];exact k)
theorem Zhl {p:List Rat} {d:Rat} (h:p[p.length - 1]? =some d) (hd:d≠0):gdP p:=fun e he=>by rw [h] at he;obtain rfl:=Option.some.inj he;exact hd
theorem zC1:zO [1,0,-1]:=Zbt (by decide+kernel) (by decide+kernel)
theorem zC2:zO [0,-1]:=Zbt (by decide+kernel) (by decide+kernel)
theorem zC3:zO [-1]:=Zbt (by decide+kernel) (by decide+kernel)
theorem zC4:zO [0,-2]:=Zbt (by decide+kernel) (by decide+kernel)
theorem gC3:gdP [-1]:=Zhl (d:=-1) rfl (by decide+kernel)
theorem gC4:gdP [0,-2]:=Zhl (d:=-2) rfl (by decide+kernel)
theorem ZdP {p q:List Rat} (n:Nat) (h:decide ((dvS p q n).2.length< q.length)=true) (g:(List.range (n+1)).all (fun t=>(dvS p q t).1.all (fun c=>decide (qs c≤1048576))&&(dvS p q t).2.all (fun c=>decide (qs c≤1048576)))=true):dvZ p q:=
 Zki n (of_decide_eq_true h) fun t ht=>by
  have:=List.all_eq_true.1 g t (List.mem_range.2 (by omega))
  rw [Bool.and_eq_true] at this
  exact⟨fun c hc=>of_decide_eq_true (List.all_eq_true.1 this.1 c hc),fun c hc=>of_decide_eq_true (List.all_eq_true.1 this.2 c hc)⟩
theorem dC1:dvZ [1,0,-1] [0,-1]:=ZdP 3 (by decide+kernel) (by decide+kernel)
theorem dC2:dvZ [0,-1] [-1]:=ZdP 3 (by decide+kernel) (by decide+kernel)
theorem eC1:dvF [1,0,-1] [0,-1]=([0,1], [1]):=by decide+kernel
theorem eC2:dvF [0,-1] [-1]=([0,1], []):=by decide+kernel
theorem lC1:lsQ [0,-1]≠0:=by decide+kernel
theorem lC2:lsQ [-1]≠0:=by decide+kernel
def qIa:Nat→AV
 |0=> .val (.one (.full []))
 |_=> .val (.one (.row 49 0))
def qIo:Nat→List (Nat×Ob)
 |0=> []
 |_=> [(49,.row 23 3 0 [rdc (-1)] true)]
def qOa:Nat→AV
 |0=> .val (.one (.d (.list (List.map rdc [0,-2]))))
 |1=> .val (.one (.row 49 0))
 |_=> .val (.one (.full []))
def qOo:Nat→List (Nat×Ob)
 |1=> [(49,.row 23 3 0 [rdc (-1)] true)]
 |_=> []
def CC (t:Nat):List (List Rat):=match t with
 |0=> [[1,0,-1]]
 |1=> [[1,0,-1], [0,-1]]
 |_=> [[1,0,-1], [0,-1], [-1]]
set_option maxHeartbeats 2000000 in
theorem Zc5  :Spec Tryd.prog Tab 162 [.val (.one (.d (.list (List.map rdc ([1,0,-1]:List Rat)))))] (.val (.one (.d (.list (List.map chD ([[1,0,-1], [0,-1], [-1]]:List (List Rat))))))):=by
 have l1:(List.map rdc ([0,-2]:List Rat)).length=2:=rfl
 have l2:(List.map rdc ([1]:List Rat)).length=1:=rfl
 have l3:(List.map rdc ([-1]:List Rat)).length=1:=rfl
 have l4:(List.map chD ([[1,0,-1]]:List (List Rat))).length=1:=rfl
 have l5:(List.map chD ([[1,0,-1], [0,-1]]:List (List Rat))).length=2:=rfl
 have l6:(List.map chD ([[1,0,-1], [0,-1], [-1]]:List (List Rat))).length=3:=rfl
 have l7:(List.map rdc ([]:List Rat)).length=0:=rfl
 have l8:([1]:List Rat).length=1:=rfl
 refine Zfk [10] Tryd.func162 rfl rfl Tryd.ntmps162 rfl (by kernel_rfl) rfl rfl ?_
 refine⟨trivial,?_⟩
 refine Zkb (a:= [0,-2]) zC1 (by decide+kernel) ?_
 refine⟨Nat,fun t=> [(3,.val (.one (.row 10 0))),(4,qOa t)],
  fun t=> [(10,.row 24 1 0 (List.map chD (CC t)) true)]++qOo t,fun t=>t≤2,fun t=>2 - t,0,?_,Nat.zero_le _,fun t hs=> ?_⟩
 ·constructor<;>(repeat' (first|exact rfl|exact True.intro|exact⟨_,_,rfl⟩|exact(by decide)|apply And.intro))
  all_goals first|exact congrArg (fun n:Int=>D.v (.int .i64 n)) (by omega)|exact congrArg (fun n:Int=>D.v (.int .i64 n)) (by rw [wrap64 _ (by omega) (by omega)];omega)|(simp;done)
 rcases (show t=0∨t=1∨t=2 by omega) with rfl|rfl|rfl
 ·refine⟨fun e1=> ?_,fun e1=> ?_⟩
  ·have f15:((List.map rdc ([0,-2]:List Rat)).length:Int) >0:=of_decide_eq_true e1
   refine ZiX (a:= [0,-1]) zC4 gC4 (by decide+kernel) ?_
   refine⟨⟨row1 rfl,(by show ((List.map chD ([[1,0,-1]]:List (List Rat))).length+1)*24≤_;omega),(by show ((List.map chD ([[1,0,-1]]:List (List Rat))).length+1)≤_;omega)⟩,?_⟩
   refine k_at_own' 0 (by first|rfl|omega|(rw [wrap64 _ (by omega) (by omega)];omega)|(rw [wrap64 _ (by omega) (by omega)];split<;>omega)) (by first|omega|(simp;done)|decide) ?_
   refine Zac [D.list (List.map rdc ([1,0,-1]:List Rat))] _ rfl rfl rfl ?_
   refine k_at_own' 1 (by first|rfl|omega|(rw [wrap64 _ (by omega) (by omega)];omega)|(rw [wrap64 _ (by omega) (by omega)];split<;>omega)) (by first|omega|(simp;done)|decide) ?_
   refine Zac [D.list (List.map rdc ([0,-1]:List Rat))] _ rfl rfl rfl ?_
   refine Zi1 zC1 zC2 (by decide) lC1 dC1 eC1 ?_
   refine⟨by kernel_rfl,?_⟩
   refine⟨_,⟨rfl,rfl,rfl⟩,?_⟩
   refine⟨Nat,fun i=> [(3,.val (.one (.row 10 0))),(4,qIa i),(39,.val (.one (.d (.list (List.map rdc ([1]:List Rat)))))),(40,int ((List.map rdc ([1]:List Rat)).length:Int)),(41,int (i:Int))],
    fun i=> [(10,.row 24 1 0 (List.map chD ([[1,0,-1]]:List (List Rat))++ [[D.list (List.map rdc ([0,-1]:List Rat))]]) true)]++qIo i,fun i=>i≤1,fun i=>1 - i,0,?_,Nat.zero_le _,fun i hs=> ?_⟩
   ·constructor<;>(repeat' (first|exact rfl|exact True.intro|exact⟨_,_,rfl⟩|exact(by decide)|apply And.intro))
    all_goals first|exact congrArg (fun n:Int=>D.v (.int .i64 n)) (by omega)|exact congrArg (fun n:Int=>D.v (.int .i64 n)) (by rw [wrap64 _ (by omega) (by omega)];omega)|(simp;done)
   rcases (show i=0∨i=1 by omega) with rfl|rfl
   ·refine⟨fun e2=> ?_,fun e2=> ?_⟩
    ·have f42:0< ((List.map rdc ([1]:List Rat)).length:Int):=of_decide_eq_true e2
     obtain⟨x43,hx43⟩:∃ vv,([1]:List Rat)[0]? =some vv:=⟨_,List.getElem?_eq_getElem (by first|omega|exact Nat.mod_lt _ (by omega))⟩
     have e43:x43=1:=(Option.some.inj hx43).symm
     have hz43:qs x43≤8:=by rw [e43];decide+kernel
     refine k_ix 0 [D.v (.bool (cn x43).s),D.v (.string (cn x43).a),D.v (.string (cn x43).d)] (by first|rfl|omega|(rw [wrap64 _ (by omega) (by omega)];omega)|(rw [wrap64 _ (by omega) (by omega)];split<;>omega)) (Zz hx43) rfl ?_
     refine Zj8 (x:=cn x43) (by simp only [cn_z];omega) fun q47 h47 z47=> ?_
     simp only [cn_z] at z47
     simp only [cn_q] at h47
     have e47:q47=-1:=by rw [h47,e43]
     clear h47
     subst e47
     refine⟨⟨Nat.zero_lt_succ _,(fun r hr=>by simp at hr),row1 rfl,(by show (0+1)*40≤_;omega),(by show 0+1≤_;omega)⟩,?_⟩
     refine⟨1,by omega,by simp only;omega,?_⟩
     constructor<;>(repeat' (first|exact rfl|exact True.intro|apply And.intro))
     all_goals first
      |exact congrArg (fun n:Int=>D.v (.int .i64 n)) (by rw [wrap64 _ (by omega) (by omega)];omega)
      |exact congrArg (fun n:Int=>D.v (.int .i64 n)) (by omega)
    ·have f42:¬ (0< ((List.map rdc ([1]:List Rat)).length:Int)):=of_decide_eq_false e2
     exfalso
     omega
   ·refine⟨fun e3=> ?_,fun e3=> ?_⟩
    ·have f42:1< ((List.map rdc ([1]:List Rat)).length:Int):=of_decide_eq_true e3
     exfalso
     omega
    ·have f42:¬ (1< ((List.map rdc ([1]:List Rat)).length:Int)):=of_decide_eq_false e3
     refine⟨1,by omega,by simp only;omega,?_⟩
     constructor<;>(repeat' (first|exact rfl|exact True.intro|apply And.intro))
     all_goals first
      |exact congrArg (fun n:Int=>D.v (.int .i64 n)) (by rw [wrap64 _ (by omega) (by omega)];omega)
      |exact congrArg (fun n:Int=>D.v (.int .i64 n)) (by omega)
  ·have f15:¬ (((List.map rdc ([0,-2]:List Rat)).length:Int) >0):=of_decide_eq_false e1
   exfalso
   omega
 ·refine⟨fun e4=> ?_,fun e4=> ?_⟩
  ·have f15:((List.map rdc ([-1]:List Rat)).length:Int) >0:=of_decide_eq_true e4
   refine ZiX (p:= [-1]) (a:= [-1]) zC3 gC3 (by decide+kernel) ?_
   refine⟨⟨row1 rfl,(by show ((List.map chD ([[1,0,-1], [0,-1]]:List (List Rat))).length+1)*24≤_;omega),(by show ((List.map chD ([[1,0,-1], [0,-1]]:List (List Rat))).length+1)≤_;omega)⟩,?_⟩
   refine k_at_own' 1 (by first|rfl|omega|(rw [wrap64 _ (by omega) (by omega)];omega)|(rw [wrap64 _ (by omega) (by omega)];split<;>omega)) (by first|omega|(simp;done)|decide) ?_
   refine Zac [D.list (List.map rdc ([0,-1]:List Rat))] _ rfl rfl rfl ?_
   refine k_at_own' 2 (by first|rfl|omega|(rw [wrap64 _ (by omega) (by omega)];omega)|(rw [wrap64 _ (by omega) (by omega)];split<;>omega)) (by first|omega|(simp;done)|decide) ?_
   refine Zac [D.list (List.map rdc ([-1]:List Rat))] _ rfl rfl rfl ?_
   refine Zi1 zC2 zC3 (by decide) lC2 dC2 eC2 ?_
   refine⟨by kernel_rfl,?_⟩
   refine⟨_,⟨rfl,rfl,rfl⟩,?_⟩
   refine⟨Nat,fun i=> [(3,.val (.one (.row 10 0))),(4,.val (.one (.full ([])))),(39,.val (.one (.d (.list (List.map rdc ([]:List Rat)))))),(40,int ((List.map rdc ([]:List Rat)).length:Int)),(41,int (i:Int))],
    fun i=> [(10,.row 24 1 0 (List.map chD ([[1,0,-1], [0,-1]]:List (List Rat))++ [[D.list (List.map rdc ([-1]:List Rat))]]) true)],fun i=>i=0,fun i=>1 - i,0,?_,rfl,fun i hs=> ?_⟩
   ·constructor<;>(repeat' (first|exact rfl|exact True.intro|exact⟨_,_,rfl⟩|exact(by decide)|apply And.intro))
    all_goals first|exact congrArg (fun n:Int=>D.v (.int .i64 n)) (by omega)|exact congrArg (fun n:Int=>D.v (.int .i64 n)) (by rw [wrap64 _ (by omega) (by omega)];omega)|(simp;done)
   refine⟨fun e5=> ?_,fun e5=> ?_⟩
   ·have f42:(i:Int)< ((List.map rdc ([]:List Rat)).length:Int):=of_decide_eq_true e5
    exfalso
    omega
   ·have f42:¬ ((i:Int)< ((List.map rdc ([]:List Rat)).length:Int)):=of_decide_eq_false e5
    refine⟨2,by omega,by simp only;omega,?_⟩
    constructor<;>(repeat' (first|exact rfl|exact True.intro|apply And.intro))
    all_goals first
     |exact congrArg (fun n:Int=>D.v (.int .i64 n)) (by rw [wrap64 _ (by omega) (by omega)];omega)
     |exact congrArg (fun n:Int=>D.v (.int .i64 n)) (by omega)
  ·have f15:¬ (((List.map rdc ([-1]:List Rat)).length:Int) >0):=of_decide_eq_false e4
   exfalso
   omega
 ·refine⟨fun e6=> ?_,fun e6=> ?_⟩
  ·have f15:(([]).length:Int) >0:=of_decide_eq_true e6
   exfalso
   exact absurd f15 (by decide)
  ·have f15:¬ ((([]).length:Int) >0):=of_decide_eq_false e6
   refine Eq.trans (b:= .val (.one (.d (.list (List.map chD ([[1,0,-1], [0,-1], [-1]]:List (List Rat))))))) ?_ rfl
   rfl
end
end Go.Proofs.YtbgokkfhohodgaaDoor.eng
namespace Go.Proofs.YtbgokkfhohodgaaDoor.eng
open Go.RowKit num mem seg q held ratA ratB ratC ratD ratE vars ratF trq
section
variable {K : AV → Prop}
theorem zP0:zO [-1,0,1]:=Zbt (by decide+kernel) (by decide+kernel)
theorem plP1:plS [-1,0,1] 1=([0,1], [-1]):=by decide+kernel
theorem plP2:plS [-1,0,1] 2=([-1], []):=by decide+kernel
theorem dvP0:dvZ [-1,0,1] [0,2]:=ZdP 3 (by decide+kernel) (by decide+kernel)
theorem dvP1:dvZ [0,1] [-1]:=ZdP 3 (by decide+kernel) (by decide+kernel)
theorem dvP3:dvZ [-1,0,1] [-1]:=ZdP 4 (by decide+kernel) (by decide+kernel)
theorem dvP2:dvZ [-1] []:=fun t=>by
 have e:∀ t,dvS [-1] [] t=([0,0], [-1]):=fun t=>by
  induction t with
  |zero=>decide+kernel
  |succ t ih=>show dvT [] (dvS [-1] [] t)=_;rw [ih];decide+kernel
 rw [e]
 exact⟨fun c hc=>by simp only [List.mem_cons,List.not_mem_nil,or_false] at hc;rcases hc with rfl|rfl<;>decide+kernel,fun c hc=>by simp only [List.mem_cons,List.not_mem_nil,or_false] at hc;subst hc;decide+kernel⟩
theorem plP0:plS [-1,0,1] 0=([-1,0,1], [0,2]):=by decide+kernel
theorem ZjB:zO []:=⟨by decide,fun c hc=>by simp at hc⟩
theorem plZC:plZ [-1,0,1]:=by
 have h2:∀ t,2≤t→plS [-1,0,1] t=([-1], []):=fun t ht=>by rw [Zeq (t:=2) (by rw [plP2]) t ht];exact plP2
 have hF:plF [-1,0,1]=([-1], []):=h2 _ (by decide)
 refine⟨fun t=> ?_,by rw [hF];exact dvP3,by rw [hF];exact Zbt (by decide+kernel) (by decide+kernel)⟩
 rcases (show t=0∨t=1∨2≤t by omega) with rfl|rfl|h
 ·rw [plP0];exact⟨zP0,Zbt (by decide+kernel) (by decide+kernel),dvP0⟩
 ·rw [plP1];exact⟨Zbt (by decide+kernel) (by decide+kernel),zC3,dvP1⟩
 ·rw [h2 t h];exact⟨zC3,ZjB,dvP2⟩
theorem plQC:plQ [-1,0,1]= [1,0,-1]:=by decide+kernel
theorem chZC:chZ [[1,0,-1], [0,-1], [-1]]:=⟨by decide,fun p hp=>by
 simp only [List.mem_cons,List.not_mem_nil,or_false] at hp
 rcases hp with rfl|rfl|rfl
 ·exact zC1
 ·exact zC2
 ·exact zC3⟩
theorem Zin (k:K (.val (.one (.d (.list (List.map rdc [1,0,-1])))))):Ask 163 [.val (.one (.d (.list (List.map rdc [-1,0,1]))))] K:=
 use (Zc8 [-1,0,1] (by simp) (Zhl (d:=1) rfl (by decide+kernel)) plZC) rfl (by rw [plQC];exact k)
theorem Zjq (k:K (.val (.one (.d (.list (List.map rdc [-1,0,1])))))):Ask 161 [.val (.one (.d (.list (List.map rdc [-1,0,1]))))] K:=
 use (ZiK [-1,0,1] zP0) rfl (by rw [show trP [-1,0,1]= [-1,0,1] from by decide+kernel];exact k)
abbrev cH:List (List Rat):= [[1,0,-1], [0,-1], [-1]]
theorem Zhf {x y:Rat} {n:Int} (hx:qs x≤1048576) (hy:qs y≤1048576) (h:ctN cH x y=n) (k:K (int n)):Ask 164 [.val (.one (.d (.list (List.map chD cH)))),pair (cn x) (cn y)] K:=
 Zfg chZC (by rw [cn_z];exact hx) (by rw [cn_z];exact hy) (by decide) (cn_q x) (cn_q y) (by rw [h];exact k)
theorem Zjp {x:Rat} (hx:qs x≤1048576) (h:¬ evP ((cH[0]?).getD []) x=0) (k:K (bool false)):Ask 166 [.val (.one (.d (.list (List.map chD cH)))),rat (cn x)] K:=
 Zhb chZC (by rw [cn_z];exact hx) (by decide) (cn_q x) (by rw [decide_eq_false h];exact k)
theorem Zj9 {x y m:Rat} (hx:qs x≤1048576) (hy:qs y≤1048576) (h:mdQ x y=m) (k:K (rat (cn m))):Ask 165 [pair (cn x) (cn y)] K:=
 Zfe (by rw [cn_z];omega) (by rw [cn_z];omega) fun q hq _=>by rw [hq,cn_q,cn_q,h];exact k
theorem hv_l {x y m:Rat} (hm:mdQ x y=m) (h0:¬ evP ((cH[0]?).getD []) m=0) (hc:ctN cH x m=1):hvS cH (cn x) (cn y)=(cn x,cn m):=by
 subst hm
 have e:=Zkf (C:=cH) (x:=cn x) (y:=cn y) (by rw [cn_q,cn_q];exact h0) (by rw [cn_q,cn_q];exact hc)
 rw [cn_q,cn_q] at e;exact e
theorem hv_r {x y m:Rat} (hm:mdQ x y=m) (h0:¬ evP ((cH[0]?).getD []) m=0) (hc:¬ ctN cH x m=1):hvS cH (cn x) (cn y)=(cn m,cn y):=by
 subst hm
 have e:=Zke (C:=cH) (x:=cn x) (y:=cn y) (by rw [cn_q,cn_q];exact h0) (by rw [cn_q,cn_q];exact hc)
 rw [cn_q,cn_q] at e;exact e
theorem Zio {x y a b:Rat} (hx:qs x≤400000) (hy:qs y≤400000) (h:hvS cH (cn x) (cn y)=(cn a,cn b)) (k:K (pair (cn a) (cn b))):Ask 122 [.val (.one (.d (.list (List.map chD cH)))),pair (cn x) (cn y)] K:=
 use (Zf5 cH (cn x) (cn y) chZC (by rw [cn_z];exact hx) (by rw [cn_z];exact hy) (by decide)) rfl (by rw [h];exact k)
def h1:Rat:=-3 / 2
def h2:Rat:=3 / 2
def h3:Rat:=-3 / 4
def h4:Rat:=3 / 4
def RR:Nat→List (RV×RV)
 |0=> [(cn (-3),cn 0),(cn 0,cn 3)]
 |1=> [(cn h1,cn 0),(cn 0,cn h2)]
 |_=> [(cn h1,cn h3),(cn h4,cn h2)]
def msQ:Nat→Rat
 |0=>1
 |1=>2
 |2=>2
 |_=>3
theorem Zeh  :Spec Tryd.prog Tab 118 [.val (.one (.d (.list (List.map rdc ([-1,0,1]:List Rat)))))] (.tup [.one (.d (.list (List.map chD ([[1,0,-1], [0,-1], [-1]]:List (List Rat))))),.one (.d (.v (.int .i64 (0))))]):=by
 have l1:(List.map rdc ([-1,0,1]:List Rat)).length=3:=rfl
 refine Zw Tryd.func118 rfl rfl Tryd.ntmps118 rfl (by kernel_rfl) rfl rfl ?_
 refine Zjq ?_
 refine⟨fun e1=> ?_,fun e1=> ?_⟩
 ·have f6:((List.map rdc ([-1,0,1]:List Rat)).length:Int)=0:=ZhG e1
  exfalso
  omega
 ·have f6:¬ (((List.map rdc ([-1,0,1]:List Rat)).length:Int)=0):=ZhH e1
  refine⟨fun e2=> ?_,fun e2=> ?_⟩
  ·have f10:((List.map rdc ([-1,0,1]:List Rat)).length:Int) >13:=of_decide_eq_true e2
   exfalso
   omega
  ·have f10:¬ (((List.map rdc ([-1,0,1]:List Rat)).length:Int) >13):=of_decide_eq_false e2
   refine Zin ?_
   refine use Zc5 rfl ?_
   refine Eq.trans (b:= .tup [.one (.d (.list (List.map chD ([[1,0,-1], [0,-1], [-1]]:List (List Rat))))),.one (.d (.v (.int .i64 (0))))]) ?_ rfl
   rfl
theorem Zd7  :SpecR Tryd.prog Tab 120 [.val (.one (.d (.list (List.map chD ([[1,0,-1], [0,-1], [-1]]:List (List Rat)))))),.val (.one (.d (.v (.slice none 0 0)))),pair (cn (-3)) (cn 0)] 138 6 (List.map rdv [(cn (-3),cn 0)]):=by
 refine Zi4 Tryd.func120 rfl rfl Tryd.ntmps120 rfl (by kernel_rfl) rfl rfl ?_
 refine Zhf (n:=1) (by decide+kernel) (by decide+kernel) (by decide+kernel) ?_
 refine⟨fun e=>absurd e (by decide),fun _=> ?_⟩
 refine⟨fun _=> ?_,fun e=>absurd e (by decide)⟩
 refine⟨⟨row1 rfl,(by show 1*80≤_;omega),(by show 1≤_;omega)⟩,?_⟩
 exact rfl
theorem ZhT  :SpecT Tryd.prog Tab 120 [.val (.one (.d (.list (List.map chD ([[1,0,-1], [0,-1], [-1]]:List (List Rat)))))),.val (.one (.row 1000 0)),pair (cn 0) (cn 3)] 138 6 (List.map rdv [(cn (-3),cn 0)]) 138 6 (List.map rdv [(cn (-3),cn 0),(cn 0,cn 3)]):=by
 have l1:(List.map rdv [(cn (-3),cn 0)]).length=1:=rfl
 refine fn_T [] Tryd.func120 rfl rfl Tryd.ntmps120 rfl (by kernel_rfl) rfl rfl ?_
 refine Zhf (n:=1) (by decide+kernel) (by decide+kernel) (by decide+kernel) ?_
 refine⟨fun e=>absurd e (by decide),fun _=> ?_⟩
 refine⟨fun _=> ?_,fun e=>absurd e (by decide)⟩
 refine⟨⟨row1 rfl,(by show ((List.map rdv [(cn (-3),cn 0)]).length+1)*80≤_;omega),(by show ((List.map rdv [(cn (-3),cn 0)]).length+1)≤_;omega)⟩,?_⟩
 exact rfl
theorem Zd6  :SpecR Tryd.prog Tab 120 [.val (.one (.d (.list (List.map chD ([[1,0,-1], [0,-1], [-1]]:List (List Rat)))))),.val (.one (.d (.v (.slice none 0 0)))),pair (cn (-3)) (cn 3)] 138 6 (List.map rdv [(cn (-3),cn 0),(cn 0,cn 3)]):=by
 refine Zjt [38,43] Tryd.func120 rfl rfl Tryd.ntmps120 rfl (by kernel_rfl) rfl rfl ?_
 refine Zhf (n:=2) (by decide+kernel) (by decide+kernel) (by decide+kernel) ?_
 refine⟨fun e=>absurd e (by decide),fun _=> ?_⟩
 refine⟨fun e=>absurd e (by decide),fun _=> ?_⟩
 refine Zj9 (m:=0) (by decide+kernel) (by decide+kernel) (by decide+kernel) ?_
 refine Zjp (by decide+kernel) (by decide+kernel) ?_
 refine⟨fun _=> ?_,fun e=>absurd e (by decide)⟩
 refine useN Zd7 ?_
 refine⟨_,_,_,ZhT,?_⟩
 refine⟨by kernel_rfl,?_⟩
 exact rfl
end
end Go.Proofs.YtbgokkfhohodgaaDoor.eng
namespace Go.Proofs.YtbgokkfhohodgaaDoor.eng
open Go.RowKit num mem seg q held ratA ratB ratC ratD ratE vars ratF trq
section
variable {K : AV → Prop}
theorem Zjm {i:Nat} {x:Rat} (h:([1,0,-1]:List Rat)[i]? =some x):msQ i+absV x=msQ (i+1):=by
 rcases i with _|_|_|i
 ·obtain rfl:(1:Rat)=x:=Option.some.inj h
  decide+kernel
 ·obtain rfl:(0:Rat)=x:=Option.some.inj h
  decide+kernel
 ·obtain rfl:(-1:Rat)=x:=Option.some.inj h
  decide+kernel
 ·simp at h
theorem ms_z:∀ i,qs (msQ i)≤100
 |0=>by decide+kernel
 |1=>by decide+kernel
 |2=>by decide+kernel
 |_+3=>by show qs (3:Rat)≤100;decide+kernel
set_option maxHeartbeats 4000000 in
theorem Zeg  :Spec Tryd.prog Tab 78 [.val (.one (.d (.list (List.map rdc ([-1,0,1]:List Rat)))))] (.tup [.one (.d (.list (List.map rdv (RR 2)))),.one (.d (.v (.int .i64 (0))))]):=by
 have l1:(List.map rdc ([1,0,-1]:List Rat)).length=3:=rfl
 have l2:([1,0,-1]:List Rat).length=3:=rfl
 have l3:∀ k,(List.map rdv (RR k)).length=2:=fun k=>by rcases k with _|_|k<;>rfl
 have l4:=l3 0
 have l5:=l3 1
 have l6:=l3 2
 have r0:(RR 0).length=2:=rfl
 have r1:(RR 1).length=2:=rfl
 have r2:(RR 2).length=2:=rfl
 refine Zfk [38] Tryd.func78 rfl rfl Tryd.ntmps78 rfl (by kernel_rfl) rfl rfl ?_
 refine use Zeh rfl ?_
 refine⟨fun e=>absurd e (by decide),fun _=> ?_⟩
 refine k_of (1) (by omega) (by omega) fun q19 h19 z19=> ?_
 simp only [cn_z] at z19
 refine k_ix 0 [D.list (List.map rdc ([1,0,-1]:List Rat))] (by first|rfl|omega|(rw [wrap64 _ (by omega) (by omega)];omega)|(rw [wrap64 _ (by omega) (by omega)];split<;>omega)) rfl rfl ?_
 have e19:q19=msQ 0:=h19
 refine⟨Nat,fun i=> [(4,.val (.one (.d (.list (List.map chD ([[1,0,-1], [0,-1], [-1]]:List (List Rat))))))),(6,.val (.one (.ptr 6 0))),(22,.val (.one (.d (.list (List.map rdc ([1,0,-1]:List Rat)))))),(23,int ((List.map rdc ([1,0,-1]:List Rat)).length:Int)),(24,int (i:Int))],
  fun i=> [(6,.var 23 [.d (.v (.bool (cn (msQ i)).s)),.d (.v (.string (cn (msQ i)).a)),.d (.v (.string (cn (msQ i)).d))])],fun i=>i≤3,fun i=>3 - i,0,?_,Nat.zero_le _,fun i hs=> ?_⟩
 ·constructor<;>(repeat' (first|exact rfl|exact True.intro|exact⟨_,_,rfl⟩|exact(by decide)|apply And.intro))
  all_goals first
   |exact congrArg (fun q:Rat=>D.v (.bool (cn q).s)) e19
   |exact congrArg (fun q:Rat=>D.v (.bool (cn q).s)) e19.symm
   |exact congrArg (fun q:Rat=>D.v (.string (cn q).a)) e19
   |exact congrArg (fun q:Rat=>D.v (.string (cn q).a)) e19.symm
   |exact congrArg (fun q:Rat=>D.v (.string (cn q).d)) e19
   |exact congrArg (fun q:Rat=>D.v (.string (cn q).d)) e19.symm
   |exact congrArg (fun n:Int=>D.v (.int .i64 n)) (by omega)
   |(simp;done)
 have hmz:=ms_z i
 refine⟨fun e1=> ?_,fun e1=> ?_⟩
 ·have f25:(i:Int)< ((List.map rdc ([1,0,-1]:List Rat)).length:Int):=of_decide_eq_true e1
  obtain⟨x26,hx26⟩:∃ vv,([1,0,-1]:List Rat)[i]? =some vv:=⟨_,List.getElem?_eq_getElem (by first|omega|exact Nat.mod_lt _ (by omega))⟩
  have hzx26:qs x26≤8:=by
   have:=List.mem_of_getElem? hx26
   simp only [List.mem_cons,List.not_mem_nil,or_false] at this
   rcases this with rfl|rfl|rfl<;>decide+kernel
  refine k_ix i [D.v (.bool (cn x26).s),D.v (.string (cn x26).a),D.v (.string (cn x26).d)] (by first|rfl|omega|(rw [wrap64 _ (by omega) (by omega)];omega)|(rw [wrap64 _ (by omega) (by omega)];split<;>omega)) (Zz hx26) rfl ?_
  refine Zi2 (x:=cn x26) (by simp only [cn_z];omega) fun q30 h30 z30=> ?_
  simp only [cn_z] at z30
  simp only [cn_q] at h30
  refine Zip (x:=cn (msQ i)) (y:=cn q30) (by simp only [cn_z];omega) (by simp only [cn_z];omega) fun q31 h31 z31=> ?_
  simp only [cn_z] at z31
  simp only [cn_q] at h31
  refine⟨by kernel_rfl,?_⟩
  have e31:q31=msQ (i+1):=by rw [h31,h30,Zjm hx26]
  refine⟨i+1,by omega,by simp only;omega,?_⟩
  constructor<;>(repeat' (first|exact rfl|exact True.intro|apply And.intro))
  all_goals first
   |exact congrArg (fun q:Rat=>D.v (.bool (cn q).s)) e31
   |exact congrArg (fun q:Rat=>D.v (.bool (cn q).s)) e31.symm
   |exact congrArg (fun q:Rat=>D.v (.string (cn q).a)) e31
   |exact congrArg (fun q:Rat=>D.v (.string (cn q).a)) e31.symm
   |exact congrArg (fun q:Rat=>D.v (.string (cn q).d)) e31
   |exact congrArg (fun q:Rat=>D.v (.string (cn q).d)) e31.symm
   |exact congrArg (fun n:Int=>D.v (.int .i64 n)) (by rw [wrap64 _ (by omega) (by omega)];omega)
   |exact congrArg (fun n:Int=>D.v (.int .i64 n)) (by omega)
 ·have f25:¬ ((i:Int)< ((List.map rdc ([1,0,-1]:List Rat)).length:Int)):=of_decide_eq_false e1
  refine Zj8 (x:=cn (msQ i)) (by simp only [cn_z];omega) fun q35 h35 z35=> ?_
  simp only [cn_z] at z35
  simp only [cn_q] at h35
  obtain rfl:i=3:=by omega
  have e35:q35=-3:=h35
  clear h35
  subst e35
  refine useN Zd6 ?_
  refine⟨by kernel_rfl,?_⟩
  refine⟨Nat,fun j=> [(4,.val (.one (.d (.list (List.map chD ([[1,0,-1], [0,-1], [-1]]:List (List Rat))))))),(9,.val (.one (.row 38 0))),(10,int ((j:Int)+1))],
   fun j=> [(38,.row 138 6 0 (List.map rdv (RR (2*j))) true)],fun j=>j≤1,fun j=>1 - j,0,?_,Nat.zero_le _,fun j hs=> ?_⟩
  ·constructor<;>(repeat' (first|exact rfl|exact True.intro|exact⟨_,_,rfl⟩|exact(by decide)|apply And.intro))
   all_goals first|exact congrArg (fun n:Int=>D.v (.int .i64 n)) (by omega)|exact congrArg (fun n:Int=>D.v (.int .i64 n)) (by rw [wrap64 _ (by omega) (by omega)];omega)|(simp;done)
  rcases (show j=0∨j=1 by omega) with rfl|rfl
  ·refine⟨fun e2=> ?_,fun e2=> ?_⟩
   ·have f42:1< ((List.map rdv (RR 0)).length:Int):=of_decide_eq_true e2
    refine⟨Nat,fun k=> [(4,.val (.one (.d (.list (List.map chD ([[1,0,-1], [0,-1], [-1]]:List (List Rat))))))),(9,.val (.one (.row 38 0))),(10,int 1)],
     fun k=> [(38,.row 138 6 0 (List.map rdv (RR k)) true)],fun k=>k≤2,fun k=>2 - k,0,?_,Nat.zero_le _,fun k hs=> ?_⟩
    ·constructor<;>(repeat' (first|exact rfl|exact True.intro|exact⟨_,_,rfl⟩|exact(by decide)|apply And.intro))
     all_goals first|exact congrArg (fun n:Int=>D.v (.int .i64 n)) (by omega)|exact congrArg (fun n:Int=>D.v (.int .i64 n)) (by rw [wrap64 _ (by omega) (by omega)];omega)|(simp;done)
    rcases (show k=0∨k=1∨k=2 by omega) with rfl|rfl|rfl
    ·refine k_at_own' 0 (by first|rfl|omega|(rw [wrap64 _ (by omega) (by omega)];omega)|(rw [wrap64 _ (by omega) (by omega)];split<;>omega)) (by first|omega|(simp;done)|decide) ?_
     refine Zac [D.v (.bool (cn (-3)).s),D.v (.string (cn (-3)).a),D.v (.string (cn (-3)).d),D.v (.bool (cn 0).s),D.v (.string (cn 0).a),D.v (.string (cn 0).d)] _ rfl rfl rfl ?_
     refine k_at_own' 1 (by first|rfl|omega|(rw [wrap64 _ (by omega) (by omega)];omega)|(rw [wrap64 _ (by omega) (by omega)];split<;>omega)) (by first|omega|(simp;done)|decide) ?_
     refine Zac [D.v (.bool (cn 0).s),D.v (.string (cn 0).a),D.v (.string (cn 0).d),D.v (.bool (cn 3).s),D.v (.string (cn 3).a),D.v (.string (cn 3).d)] _ rfl rfl rfl ?_
     refine ZdK (x:=cn 0) (y:=cn 0) (by rw [cn_z];decide+kernel) (by rw [cn_z];decide+kernel) fun n56 h56=> ?_
     obtain rfl:n56=0:=by rw [h56];simp only [cn_q];decide+kernel
     refine⟨by kernel_rfl,?_⟩
     refine⟨fun _=> ?_,fun e=>absurd e (by decide)⟩
     refine k_at_own' 0 (by first|rfl|omega|(rw [wrap64 _ (by omega) (by omega)];omega)|(rw [wrap64 _ (by omega) (by omega)];split<;>omega)) (by first|omega|(simp;done)|decide) ?_
     refine Zac [D.v (.bool (cn (-3)).s),D.v (.string (cn (-3)).a),D.v (.string (cn (-3)).d),D.v (.bool (cn 0).s),D.v (.string (cn 0).a),D.v (.string (cn 0).d)] _ rfl rfl rfl ?_
     refine Zio (a:=h1) (b:=0) (by decide+kernel) (by decide+kernel) (hv_r (by decide+kernel) (by decide+kernel) (by decide+kernel)) ?_
     refine k_at_own' 1 (by first|rfl|omega|(rw [wrap64 _ (by omega) (by omega)];omega)|(rw [wrap64 _ (by omega) (by omega)];split<;>omega)) (by first|omega|(simp;done)|decide) ?_
     refine Zac [D.v (.bool (cn 0).s),D.v (.string (cn 0).a),D.v (.string (cn 0).d),D.v (.bool (cn 3).s),D.v (.string (cn 3).a),D.v (.string (cn 3).d)] _ rfl rfl rfl ?_
     refine Zio (a:=0) (b:=h2) (by decide+kernel) (by decide+kernel) (hv_l (by decide+kernel) (by decide+kernel) (by decide+kernel)) ?_
     refine k_at_own' 0 (by first|rfl|omega|(rw [wrap64 _ (by omega) (by omega)];omega)|(rw [wrap64 _ (by omega) (by omega)];split<;>omega)) (by first|omega|(simp;done)|decide) ?_
     refine⟨by first|omega|(simp;omega),?_⟩
     refine k_at_own' 1 (by first|rfl|omega|(rw [wrap64 _ (by omega) (by omega)];omega)|(rw [wrap64 _ (by omega) (by omega)];split<;>omega)) (by first|omega|(simp;done)|decide) ?_
     refine⟨by first|omega|(simp;omega),?_⟩
     refine⟨by kernel_rfl,?_⟩
     refine⟨1,by omega,by simp only;omega,?_⟩
     constructor<;>(repeat' (first|exact rfl|exact True.intro|apply And.intro))
     all_goals first
      |exact congrArg (fun n:Int=>D.v (.int .i64 n)) (by rw [wrap64 _ (by omega) (by omega)];omega)
      |exact congrArg (fun n:Int=>D.v (.int .i64 n)) (by omega)
    ·refine k_at_own' 0 (by first|rfl|omega|(rw [wrap64 _ (by omega) (by omega)];omega)|(rw [wrap64 _ (by omega) (by omega)];split<;>omega)) (by first|omega|(simp;done)|decide) ?_
     refine Zac [D.v (.bool (cn h1).s),D.v (.string (cn h1).a),D.v (.string (cn h1).d),D.v (.bool (cn 0).s),D.v (.string (cn 0).a),D.v (.string (cn 0).d)] _ rfl rfl rfl ?_
     refine k_at_own' 1 (by first|rfl|omega|(rw [wrap64 _ (by omega) (by omega)];omega)|(rw [wrap64 _ (by omega) (by omega)];split<;>omega)) (by first|omega|(simp;done)|decide) ?_
     refine Zac [D.v (.bool (cn 0).s),D.v (.string (cn 0).a),D.v (.string (cn 0).d),D.v (.bool (cn h2).s),D.v (.string (cn h2).a),D.v (.string (cn h2).d)] _ rfl rfl rfl ?_
     refine ZdK (x:=cn 0) (y:=cn 0) (by rw [cn_z];decide+kernel) (by rw [cn_z];decide+kernel) fun n56 h56=> ?_
     obtain rfl:n56=0:=by rw [h56];simp only [cn_q];decide+kernel
     refine⟨by kernel_rfl,?_⟩
     refine⟨fun _=> ?_,fun e=>absurd e (by decide)⟩
     refine k_at_own' 0 (by first|rfl|omega|(rw [wrap64 _ (by omega) (by omega)];omega)|(rw [wrap64 _ (by omega) (by omega)];split<;>omega)) (by first|omega|(simp;done)|decide) ?_
     refine Zac [D.v (.bool (cn h1).s),D.v (.string (cn h1).a),D.v (.string (cn h1).d),D.v (.bool (cn 0).s),D.v (.string (cn 0).a),D.v (.string (cn 0).d)] _ rfl rfl rfl ?_
     refine Zio (a:=h1) (b:=h3) (by decide+kernel) (by decide+kernel) (hv_l (by decide+kernel) (by decide+kernel) (by decide+kernel)) ?_
     refine k_at_own' 1 (by first|rfl|omega|(rw [wrap64 _ (by omega) (by omega)];omega)|(rw [wrap64 _ (by omega) (by omega)];split<;>omega)) (by first|omega|(simp;done)|decide) ?_
     refine Zac [D.v (.bool (cn 0).s),D.v (.string (cn 0).a),D.v (.string (cn 0).d),D.v (.bool (cn h2).s),D.v (.string (cn h2).a),D.v (.string (cn h2).d)] _ rfl rfl rfl ?_
     refine Zio (a:=h4) (b:=h2) (by decide+kernel) (by decide+kernel) (hv_r (by decide+kernel) (by decide+kernel) (by decide+kernel)) ?_
     refine k_at_own' 0 (by first|rfl|omega|(rw [wrap64 _ (by omega) (by omega)];omega)|(rw [wrap64 _ (by omega) (by omega)];split<;>omega)) (by first|omega|(simp;done)|decide) ?_
     refine⟨by first|omega|(simp;omega),?_⟩
     refine k_at_own' 1 (by first|rfl|omega|(rw [wrap64 _ (by omega) (by omega)];omega)|(rw [wrap64 _ (by omega) (by omega)];split<;>omega)) (by first|omega|(simp;done)|decide) ?_
     refine⟨by first|omega|(simp;omega),?_⟩
     refine⟨by kernel_rfl,?_⟩
     refine⟨2,by omega,by simp only;omega,?_⟩
     constructor<;>(repeat' (first|exact rfl|exact True.intro|apply And.intro))
     all_goals first
      |exact congrArg (fun n:Int=>D.v (.int .i64 n)) (by rw [wrap64 _ (by omega) (by omega)];omega)
      |exact congrArg (fun n:Int=>D.v (.int .i64 n)) (by omega)
    ·refine k_at_own' 0 (by first|rfl|omega|(rw [wrap64 _ (by omega) (by omega)];omega)|(rw [wrap64 _ (by omega) (by omega)];split<;>omega)) (by first|omega|(simp;done)|decide) ?_
     refine Zac [D.v (.bool (cn h1).s),D.v (.string (cn h1).a),D.v (.string (cn h1).d),D.v (.bool (cn h3).s),D.v (.string (cn h3).a),D.v (.string (cn h3).d)] _ rfl rfl rfl ?_
     refine k_at_own' 1 (by first|rfl|omega|(rw [wrap64 _ (by omega) (by omega)];omega)|(rw [wrap64 _ (by omega) (by omega)];split<;>omega)) (by first|omega|(simp;done)|decide) ?_
     refine Zac [D.v (.bool (cn h4).s),D.v (.string (cn h4).a),D.v (.string (cn h4).d),D.v (.bool (cn h2).s),D.v (.string (cn h2).a),D.v (.string (cn h2).d)] _ rfl rfl rfl ?_
     refine ZdK (x:=cn h3) (y:=cn h4) (by rw [cn_z];decide+kernel) (by rw [cn_z];decide+kernel) fun n56 h56=> ?_
     obtain rfl:n56=(-1):=by rw [h56];simp only [cn_q];decide+kernel
     refine⟨by kernel_rfl,?_⟩
     refine⟨fun e=>absurd e (by decide),fun _=> ?_⟩
     refine⟨1,by omega,by simp only;omega,?_⟩
     constructor<;>(repeat' (first|exact rfl|exact True.intro|apply And.intro))
     all_goals first
      |exact congrArg (fun n:Int=>D.v (.int .i64 n)) (by rw [wrap64 _ (by omega) (by omega)];omega)
      |exact congrArg (fun n:Int=>D.v (.int .i64 n)) (by omega)
   ·have f42:¬ (1< ((List.map rdv (RR 0)).length:Int)):=of_decide_eq_false e2
    exfalso
    omega
  ·refine⟨fun e3=> ?_,fun e3=> ?_⟩
   ·have f42:2< ((List.map rdv (RR 2)).length:Int):=of_decide_eq_true e3
    exfalso
    omega
   ·have f42:¬ (2< ((List.map rdv (RR 2)).length:Int)):=of_decide_eq_false e3
    refine Eq.trans (b:= .tup [.one (.d (.list (List.map rdv (RR 2)))),.one (.d (.v (.int .i64 (0))))]) ?_ rfl
    rfl
end
end Go.Proofs.YtbgokkfhohodgaaDoor.eng
namespace Go.Proofs.YtbgokkfhohodgaaDoor.eng
open Go.RowKit num mem seg q held ratA ratB ratC ratD ratE vars ratF argopen trq
section
variable {K : AV → Prop}
theorem ZbO  :Spec Tryd.prog Tab 32 [] (bool true):=by
 refine Zw Tryd.func32 rfl rfl Tryd.ntmps32 rfl (by kernel_rfl) rfl rfl ?_
 refine Zey (-1) (1) (by omega) (by omega) (by omega) (by omega) (by decide+kernel) fun q4 h4 z4=> ?_
 obtain rfl:q4=-1:=by rw [h4];decide+kernel
 refine Zey (0) (1) (by omega) (by omega) (by omega) (by omega) (by decide+kernel) fun q5 h5 z5=> ?_
 obtain rfl:q5=0:=by rw [h5];decide+kernel
 refine Zey (1) (1) (by omega) (by omega) (by omega) (by omega) (by decide+kernel) fun q6 h6 z6=> ?_
 obtain rfl:q6=1:=by rw [h6];decide+kernel
 refine use Zeg rfl ?_
 refine Zex ?_
 refine Eq.trans (b:=bool (((List.map rdv (RR 2)).length:Int)==2)) ?_ rfl
 rfl
theorem ZbN (P:List RV) (x:RV) (hP:P.length≤1048576∧∀ y,y∈P→y.z≤1048576) (hx:x.z≤1048576):Spec Tryd.prog Tab 6 [.val (.one (.d (.list (List.map rd P)))),rat x] (bool true):=by
 refine Zw Tryd.func6 rfl rfl Tryd.ntmps6 rfl (by kernel_rfl) rfl rfl ?_
 refine use ZbO rfl ?_
 refine Zhg hP hx fun q9 h9=> ?_
 refine Ziq hP hx fun q12 h12=> ?_
 refine Zez (by rw [h9,h12]) ?_
 refine⟨by kernel_rfl,?_⟩
 refine Eq.trans (b:=bool true) ?_ rfl
 rfl
theorem sturmEvals_walk (v0:Value) (l0:List RV) (s1:Bool) (a1 d1:ByteArray) (N:Nat) (w:World) (_:1≤N) (hN:N≤1048576) (h0:Den w (fun b=>b< w.heap.size) v0 (.list (l0.map eng.rd))) (u0:ratsZ l0 N) (_:a1.size≤N) (_:d1.size≤N) (hT:Tab w):
  Calls Tryd.prog 6 #[v0,.agg #[.bool s1,.string a1,.string d1]] w fun e w'=>e= .returned (.bool true)∧Below w.heap.size w w':=
 Zcm (I:=fun b=>b< w.heap.size) (ZbN l0 ⟨s1,a1,d1⟩ ⟨Nat.le_trans u0.1 (by omega),fun x hx=>Nat.le_trans (u0.2 x hx) (by omega)⟩ (by unfold RV.z;simp only;omega)) rfl hT (fun _ h=>h)
  (((ZgS (vs:= []) rfl).cons ((Zds (v:=rat ⟨s1,a1,d1⟩) rfl).2 rfl)).cons (show DenAV _ _ _ _ v0 (.val (.one (.d (.list _)))) from h0))
end
end Go.Proofs.YtbgokkfhohodgaaDoor.eng
