/- Joined by wip/bundle.py: XPrf0 XCelA XOpenC. -/
import Derived.Test.YtcogfmileelkeaaDoorGrpO
import Derived.Test.YtcogfmileelkeaaDoorWg
import Derived.Test.YtcogfmileelkeaaDoorGrpDr
import Derived.Test.YtcogfmileelkeaaDoorSortC
import Derived.Test.YtcogfmileelkeaaDoorOpenA
set_option maxRecDepth 100000
namespace Go.Proofs.YtcogfmileelkeaaDoor.prf
open Go.Proofs.YtcogfmileelkeaaDoor.eng Go.RowKit num mem seg q held ratA ratB ratC ratD ratE vars ratF
theorem ZI {α:Type} {l:List α} {i:Nat} (h:i< l.length) {G:Prop} (k:∀ x,l[i]? =some x→G):G:=k _ (List.getElem?_eq_getElem h)
end Go.Proofs.YtcogfmileelkeaaDoor.prf
namespace Go.Proofs.YtcogfmileelkeaaDoor.eng
open Go.RowKit num mem seg q held ratA ratB ratC ratD ratE vars ratF prf
section
variable {K : AV → Prop}
abbrev KC:=Int×Int
def kcD (c:KC):List D:= [D.v (.int .i64 c.1),D.v (.int .i64 c.2)]
def kcL (l:List KC):List D:= [D.list (List.map kcD l)]
def kcV (c:KC):List Value:= [.int .i64 c.1,.int .i64 c.2]
def cmpZ (x y:Int):Int:=if x< y then -1 else if y< x then 1 else 0
theorem Zis {x y:Int}:cmpZ x y< 0↔x< y:=by unfold cmpZ;split<;>(try split)<;>omega
theorem ZcE {x y:Int}:cmpZ x y=0↔x=y:=by unfold cmpZ;split<;>(try split)<;>omega
def ordZ (a b:KC):Int:=if cmpZ a.2 b.2=0 then cmpZ a.1 b.1 else cmpZ a.2 b.2
def kcLt (a b:KC):Prop:=a.2< b.2∨(a.2=b.2∧a.1< b.1)
theorem ZN {a b:KC}:ordZ a b< 0↔kcLt a b:=by
 unfold ordZ kcLt
 split
 ·rename_i h;rw [ZcE] at h;rw [Zis];omega
 ·rename_i h;rw [ZcE] at h;rw [Zis];omega
theorem ZhI {a b:KC}:ordZ a b=0↔a=b:=by
 unfold ordZ
 split
 ·rename_i h;rw [ZcE] at h;rw [ZcE];exact⟨fun e=>Prod.ext e h,fun e=>by rw [e]⟩
 ·rename_i h;exact⟨fun e=>absurd e h,fun e=>absurd (ZcE.2 (congrArg Prod.snd e)) h⟩
theorem Zar {a b c:KC} (h1:kcLt a b) (h2:kcLt b c):kcLt a c:=by unfold kcLt at*;omega
theorem ZgT (a b:KC):kcLt a b∨a=b∨kcLt b a:=by
 by_cases h:a=b
 ·exact .inr (.inl h)
 ·have:a.1≠b.1∨a.2≠b.2:=by
   by_cases h1:a.1=b.1
   ·exact .inr fun h2=>h (Prod.ext h1 h2)
   ·exact .inl h1
  unfold kcLt;omega
theorem Zbq {a:KC}:¬ kcLt a a:=by unfold kcLt;omega
theorem Zcr (x:Int):Spec Tryd.prog Tab 42 [int x] (bool false):=by
 refine Zn Tryd.func42 rfl rfl Tryd.ntmps42 rfl (by kernel_rfl) rfl rfl ?_
 refine Eq.trans (b:=bool (x !=x)) ?_ rfl
 simp
theorem ZbA (x y:Int):Spec Tryd.prog Tab 31 [int x,int y] (int (cmpZ x y)):=by
 refine Zn Tryd.func31 rfl rfl Tryd.ntmps31 rfl (by kernel_rfl) rfl rfl ?_
 refine use (Zcr x) rfl ?_
 refine use (Zcr y) rfl ?_
 refine⟨fun e=>absurd e (by decide),fun _=> ?_⟩
 refine⟨fun e=>absurd e (by decide),fun _=> ?_⟩
 refine⟨fun e1=> ?_,fun e1=> ?_⟩
 ·have f16:x< y:=of_decide_eq_true e1
  refine Eq.trans (b:=int (-1)) ?_ rfl
  unfold cmpZ
  rw [if_pos f16]
 ·have f16:¬ (x< y):=of_decide_eq_false e1
  refine⟨fun e2=> ?_,fun e2=> ?_⟩
  ·have f19:x >y:=of_decide_eq_true e2
   refine Eq.trans (b:=int 1) ?_ rfl
   unfold cmpZ
   rw [if_neg f16,if_pos f19]
  ·have f19:¬ (x >y):=of_decide_eq_false e2
   refine Eq.trans (b:=int 0) ?_ rfl
   unfold cmpZ
   rw [if_neg f16,if_neg f19]
theorem ZaB (a b:KC):Spec Tryd.prog Tab 21 [cell a.1 a.2,cell b.1 b.2] (int (ordZ a b)):=by
 refine Zn Tryd.func21 rfl rfl Tryd.ntmps21 rfl (by kernel_rfl) rfl rfl ?_
 refine use (ZbA a.2 b.2) rfl ?_
 refine⟨fun e1=> ?_,fun e1=> ?_⟩
 ·have f12:cmpZ a.2 b.2≠0:=Zlu e1
  refine Eq.trans (b:=int (cmpZ a.2 b.2)) ?_ rfl
  unfold ordZ
  rw [if_neg f12]
 ·have f12:¬ (cmpZ a.2 b.2≠0):=fun hh=>hh (Zlv e1)
  refine use (ZbA a.1 b.1) rfl ?_
  refine Eq.trans (b:=int (cmpZ a.1 b.1)) ?_ rfl
  unfold ordZ
  rw [if_pos (Decidable.byContradiction f12)]
theorem ZfR:Go.Sort.SWO (ltOf fun (x y:KC)=>ordZ x y) where
 irrefl x:=by
  unfold ltOf
  rw [decide_eq_false]
  exact fun h=>Zbq (ZN.1 h)
 trans x y z h1 h2:=by
  unfold ltOf at*
  exact decide_eq_true (ZN.2 (Zar (ZN.1 (of_decide_eq_true h1)) (ZN.1 (of_decide_eq_true h2))))
 ntrans x y z h1 h2:=by
  unfold ltOf at*
  have h1:=of_decide_eq_false h1
  have h2:=of_decide_eq_false h2
  refine decide_eq_false fun h3=> ?_
  rw [ZN] at h1 h2 h3
  unfold kcLt at*
  omega
theorem Zjh (p:KC):∀ v,v∈kcV p→flat v=true:=by
 intro v hv
 simp only [kcV,List.mem_cons,List.not_mem_nil,or_false] at hv
 rcases hv with rfl|rfl<;>rfl
theorem Zhl (l:List KC) (hn:l.length≤4194304):∃ l':List KC,l'.Perm l∧l'.Pairwise (fun x y=>¬ kcLt y x)∧
  SpecS Tryd.prog Tab 33 [.val (.one (.row 1000 0)),fv 21] 25 2 (l.map kcD) (.tup []) (l'.map kcD):=by
 obtain⟨l1,h1,h2,h3⟩:=Zhq (fun (x y:KC)=>ordZ x y) ZfR l
 refine⟨l1,h1,h2.imp fun {a b} h g=>h (ZN.2 g),?_⟩
 have hs:=Zht (P:=Tryd.prog) (G:=Tab) (k:=2) (enc:=fun x:KC=>kcV x) Tryd.sortCell Tryd.isAgg25 Tryd.sizeOf25 (fun _=>rfl) (by decide) (fun x=>Zjh x) (fun x y=>ordZ x y) ZfR 21
   (Zz Tryd.func21 rfl rfl) (fun x y w hG=>ZdO (ZaB x y) rfl hG (ZhE rfl)) 25 l (by omega)
 rw [h3] at hs
 exact hs
def keptZ (l:List KC) (m:Nat):List KC:=(List.range m).filterMap fun i=>if i=0∨l[i]? ≠l[i - 1]? then l[i]? else none
theorem ZbH (l:List KC) (m:Nat):keptZ l (m+1)=keptZ l m++(if m=0∨l[m]? ≠l[m - 1]? then l[m]? else none).toList:=by
 unfold keptZ
 rw [List.range_succ,List.filterMap_append]
 cases h:(if m=0∨l[m]? ≠l[m - 1]? then l[m]? else none)<;>simp [h]
theorem Zb5 (l:List KC) (m:Nat):(keptZ l m).length≤m:=by
 have:=List.length_filterMap_le (fun i=>if i=0∨l[i]? ≠l[i - 1]? then l[i]? else none) (List.range m)
 simpa [keptZ] using this
theorem ZaP {l:List KC} {m:Nat} {x:KC} (hx:l[m]? =some x) (h:m=0∨l[m - 1]? ≠some x):keptZ l (m+1)=keptZ l m++ [x]:=by
 rw [ZbH,if_pos (by rcases h with h|h;exact .inl h;right;rw [hx];exact fun e=>h e.symm),hx];rfl
theorem ZaZ {l:List KC} {m:Nat} {x:KC} (h0:0< m) (hx:l[m]? =some x) (h:l[m - 1]? =some x):keptZ l (m+1)=keptZ l m:=by
 rw [ZbH,if_neg (by rintro(e|e);omega;rw [hx,h] at e;exact e rfl)];simp
theorem Zaq {l:List KC}:∀ {m:Nat},m≤l.length→(∀ i,0< i→i< m→l[i]? ≠l[i - 1]?)→keptZ l m=l.take m
 |0,_,_=>rfl
 |m+1,h,hd=>by
  obtain⟨x,hx⟩:∃ x,l[m]? =some x:=⟨_,List.getElem?_eq_getElem (by omega)⟩
  rw [ZaP hx (by
   by_cases h0:m=0
   ·exact .inl h0
   ·right;rw [← hx];exact fun e=>hd m (by omega) (by omega) e.symm),Zaq (by omega) fun i h1 h2=>hd i h1 (by omega),List.take_add_one,hx];rfl
def cmpY (l:List KC) (m:Nat):List KC:=keptZ l m++l.drop (keptZ l m).length
theorem Zjy {l:List KC} {m:Nat} (h:m≤l.length):(cmpY l m).length=l.length:=by
 have:=Zb5 l m
 simp only [cmpY,List.length_append,List.length_drop];omega
theorem Zkx {l:List KC} {m i:Nat} (h:(keptZ l m).length≤i):(cmpY l m)[i]? =l[i]? :=by
 unfold cmpY
 rw [List.getElem?_append_right h,List.getElem?_drop]
 congr 1;omega
theorem Zit {l:List KC} {m:Nat} (h:m≤l.length) (hd:∀ i,0< i→i< m→l[i]? ≠l[i - 1]?):cmpY l m=l:=by
 unfold cmpY
 rw [Zaq h hd,List.length_take,Nat.min_eq_left h,List.take_append_drop]
theorem Ziu {l:List KC} {m:Nat} {x:KC} (h0:0< m) (hx:l[m]? =some x) (h:l[m - 1]? =some x):cmpY l (m+1)=cmpY l m:=by unfold cmpY;rw [ZaZ h0 hx h]
theorem Zjx {l:List KC} {m:Nat} {x:KC} (hx:l[m]? =some x) (h:l[m - 1]? ≠some x):(cmpY l m).set (keptZ l m).length x=cmpY l (m+1):=by
 have hk:=Zb5 l m
 have hm:m< l.length:=(List.getElem?_eq_some_iff.1 hx).1
 unfold cmpY
 rw [ZaP hx (.inr h),List.set_append_right _ _ (Nat.le_refl _),Nat.sub_self,List.length_append,List.length_singleton,List.append_assoc]
 congr 1
 obtain⟨y,r,e⟩:∃ y r,l.drop (keptZ l m).length=y :: r:=by
  cases e:l.drop (keptZ l m).length with
  |nil=>have:=congrArg List.length e;rw [List.length_drop] at this;simp at this;omega
  |cons y r=>exact⟨y,r,rfl⟩
 rw [e,List.set_cons_zero,← List.drop_drop,e];rfl
theorem Zf2 {l:List KC} {k:Nat} {x:KC} (h0:0< k) (hx:l[k]? =some x) (h:l[k - 1]? =some x):∀ j,1≤j→(keptZ l (k+j)).length< k+j
 |1,_=>by rw [ZaZ h0 hx h];have:=Zb5 l k;omega
 |j+2,_=>by
  have ih:=Zf2 h0 hx h (j+1) (by omega)
  have:(keptZ l (k+(j+1)+1)).length≤(keptZ l (k+(j+1))).length+1:=by
   rw [ZbH,List.length_append]
   have:(if k+(j+1)=0∨l[k+(j+1)]? ≠l[k+(j+1) - 1]? then l[k+(j+1)]? else none).toList.length≤1:=by split<;>simp [Option.length_toList];split<;>omega
   omega
  rw [show k+(j+2)=k+(j+1)+1 by omega];omega
set_option maxHeartbeats 4000000 in
theorem Zdg (l:List KC) (hn:l.length≤4194304):SpecT Tryd.prog Tab 34 [.val (.one (.row 1000 0))] 25 2 (List.map kcD l) 25 2 (List.map kcD (keptZ l l.length)):=by
 have hL:(List.map kcD l).length=l.length:=List.length_map ..
 refine fn_T [] Tryd.func34 rfl rfl Tryd.ntmps34 rfl (by kernel_rfl) rfl rfl ?_
 refine⟨fun e1=> ?_,fun e1=> ?_⟩
 ·have f8:((List.map kcD l).length:Int)< 2:=of_decide_eq_true e1
  rw [Zaq (Nat.le_refl _) (fun i h1 h2=>by omega),List.take_length]
  exact rfl
 ·have f8:¬ (((List.map kcD l).length:Int)< 2):=of_decide_eq_false e1
  refine⟨Nat,fun i=> [(0,.val (.one (.row 1000 0))),(3,int (i:Int))],
   fun i=> [(1000,.row 25 2 0 (List.map kcD l) true)],fun i=>1≤i∧i≤l.length∧∀ j,0< j→j< i→l[j]? ≠l[j - 1]?,fun i=>l.length - i,1,?_,⟨by omega,by omega,fun j h1 h2=>by omega⟩,fun i hs=> ?_⟩
  ·constructor<;>(repeat' (first|exact rfl|exact True.intro|exact⟨_,_,rfl⟩|exact(by decide)|apply And.intro))
   all_goals first|exact congrArg (fun n:Int=>D.v (.int .i64 n)) (by omega)|exact congrArg (fun n:Int=>D.v (.int .i64 n)) (by rw [wrap64 _ (by omega) (by omega)];omega)|(simp;done)
  obtain⟨g0,g1,g2⟩:=hs
  refine⟨fun e2=> ?_,fun e2=> ?_⟩
  ·have f13:(i:Int)< ((List.map kcD l).length:Int):=of_decide_eq_true e2
   refine k_at_own' i (by first|rfl|omega|(rw [wrap64 _ (by omega) (by omega)];omega)|(rw [wrap64 _ (by omega) (by omega)];split<;>omega)) (by first|omega|(simp only [List.length_set];omega)|(simp;omega)) ?_
   refine ZI (l:=l) (i:=i) (by first|omega|exact Nat.mod_lt _ (by omega)) fun x19 hx19=> ?_
   refine ZcQ [D.v (.int .i64 (x19.1)),D.v (.int .i64 (x19.2))] _ (ZH hx19) rfl rfl ?_
   refine k_at_own' (i - 1) (by first|rfl|omega|(rw [wrap64 _ (by omega) (by omega)];omega)|(rw [wrap64 _ (by omega) (by omega)];split<;>omega)) (by first|omega|(simp only [List.length_set];omega)|(simp;omega)) ?_
   refine ZI (l:=l) (i:=(i - 1)) (by first|omega|exact Nat.mod_lt _ (by omega)) fun x24 hx24=> ?_
   refine ZcQ [D.v (.int .i64 (x24.1)),D.v (.int .i64 (x24.2))] _ (ZH hx24) rfl rfl ?_
   refine ZbU (fun f25=> ?_) (fun f25=> ?_)
   ·refine⟨by kernel_rfl,?_⟩
    refine⟨fun _=> ?_,fun e=>absurd e (by decide)⟩
    refine⟨_,⟨by first|omega|decide,by first|omega|(simp;omega)|simp,rfl⟩,?_⟩
    have e24:x19=x24:=Prod.ext f25.1 f25.2
    have hk1:=ZaZ (l:=l) (m:=i) (by omega) hx19 (by rw [e24];exact hx24)
    have hkt:=Zaq (l:=l) (m:=i) (by omega) g2
    have hkl:(keptZ l (i+1)).length=i:=by rw [hk1,hkt,List.length_take];omega
    have hct:=(Ziu (l:=l) (m:=i) (by omega) hx19 (by rw [e24];exact hx24)).trans (Zit (by omega) g2)
    refine⟨Nat,fun j=> [(0,.val (.one (.row 1000 0))),(3,int ((keptZ l (i+j)).length:Int)),(4,.val (.one (.rs 1000 0 2 i))),(5,int (j:Int))],
     fun j=> [(1000,.row 25 2 0 (List.map kcD (cmpY l (i+j))) true)],fun j=>1≤j∧i+j≤l.length,fun j=>l.length - j,1,?_,⟨by omega,by omega⟩,fun j hs=> ?_⟩
    ·constructor<;>(repeat' (first|exact rfl|exact True.intro|exact⟨_,_,rfl⟩|exact(by decide)|apply And.intro))
     all_goals first
      |exact congrArg (fun n:Int=>D.v (.int .i64 n)) (by rw [hkl])
      |(rw [hct];done)
      |exact congrArg (List.map kcD) hct
      |exact congrArg (List.map kcD) hct.symm
      |exact Int.toNat_natCast i
      |exact(Int.toNat_natCast i).symm
    obtain⟨j1,j2⟩:=hs
    have hke:=Zf2 (l:=l) (k:=i) (by omega) hx19 (by rw [e24];exact hx24) j j1
    have hcl2:=Zjy (l:=l) j2
    have hcl:(List.map kcD (cmpY l (i+j))).length=l.length:=by rw [List.length_map,hcl2]
    have hw1:IntKind.i64.wrap ((j:Int) - 1)=(j:Int) - 1:=wrap64 _ (by omega) (by omega)
    have cX:∀ (q:Nat) {x:KC},(keptZ l (i+j)).length≤q→l[q]? =some x→(cmpY l (i+j))[q]? =some x:=fun q x h1 h2=>by rw [Zkx h1];exact h2
    refine⟨fun e4=> ?_,fun e4=> ?_⟩
    ·have f32:(j:Int)< (((List.map kcD (cmpY l (i+j))).length - i:Nat):Int):=of_decide_eq_true e4
     refine⟨_,⟨by omega,by first|omega|(simp;omega),rfl⟩,?_⟩
     refine ZI (l:=l) (i:=(i+j)) (by first|omega|exact Nat.mod_lt _ (by omega)) fun x38 hx38=> ?_
     refine ZcQ [D.v (.int .i64 (x38.1)),D.v (.int .i64 (x38.2))] _ (ZH (cX _ (by omega) hx38)) rfl rfl ?_
     refine⟨_,⟨by omega,by first|omega|(simp;omega),rfl⟩,?_⟩
     refine ZI (l:=l) (i:=(i+j - 1)) (by first|omega|exact Nat.mod_lt _ (by omega)) fun x43 hx43=> ?_
     refine ZcQ [D.v (.int .i64 (x43.1)),D.v (.int .i64 (x43.2))] _ (ZH (by rw [hw1,show i+((j:Int) - 1).toNat=i+j - 1 by omega];exact cX _ (by omega) hx43)) rfl rfl ?_
     refine Zer (fun f44=> ?_) (fun f44=> ?_)
     ·refine⟨by kernel_rfl,?_⟩
      refine⟨fun e=>absurd e (by decide),fun _=> ?_⟩
      have e47:x38=x43:=Prod.ext f44.1 f44.2
      have hkk:=ZaZ (l:=l) (m:=i+j) (by omega) hx38 (by rw [e47];exact hx43)
      have hcc:=Ziu (l:=l) (m:=i+j) (by omega) hx38 (by rw [e47];exact hx43)
      refine⟨j+1,by omega,by simp only;omega,?_⟩
      constructor<;>(repeat' (first|exact rfl|exact True.intro|apply And.intro))
      all_goals first
       |(rw [Nat.add_assoc] at hcc;rw [hcc];done)
       |exact congrArg (fun n:Int=>D.v (.int .i64 n)) (by rw [← Nat.add_assoc,hkk])
       |(rw [Nat.add_assoc] at hkk;rw [hkk];done)
       |exact congrArg (fun n:Int=>D.v (.int .i64 n)) (by rw [wrap64 _ (by omega) (by omega)];omega)
       |exact congrArg (fun n:Int=>D.v (.int .i64 n)) (by omega)
     ·refine⟨by kernel_rfl,?_⟩
      refine⟨fun _=> ?_,fun e=>absurd e (by decide)⟩
      refine⟨_,⟨by omega,by first|omega|(simp;omega),rfl⟩,?_⟩
      refine ZcQ [D.v (.int .i64 (x38.1)),D.v (.int .i64 (x38.2))] _ (ZH (cX _ (by omega) hx38)) rfl rfl ?_
      refine k_at_own' ((((keptZ l (i+j)).length:Int)).toNat) (by first|rfl|omega|(rw [wrap64 _ (by omega) (by omega)];omega)|(rw [wrap64 _ (by omega) (by omega)];split<;>omega)) (by first|omega|(simp only [List.length_set];omega)|(simp;omega)) ?_
      refine⟨by first|omega|(simp only [List.length_set];omega)|(simp;omega),?_⟩
      have g44:¬ x38=x43:=fun e=>f44 ⟨congrArg Prod.fst e,congrArg Prod.snd e⟩
      have hkk:=ZaP hx38 (.inr (by rw [hx43];exact fun e=>g44 (Option.some.inj e).symm))
      have hcc:=Zjx hx38 (by rw [hx43];exact fun e=>g44 (Option.some.inj e).symm)
      refine⟨j+1,by omega,by simp only;omega,?_⟩
      constructor<;>(repeat' (first|exact rfl|exact True.intro|apply And.intro))
      all_goals first
       |(rw [Nat.add_assoc] at hcc;rw [← hcc,List.map_set];rfl)
       |exact congrArg (fun n:Int=>D.v (.int .i64 n)) (by rw [wrap64 _ (by omega) (by omega),← Nat.add_assoc,hkk,List.length_append];simp)
       |exact congrArg (fun n:Int=>D.v (.int .i64 n)) (by rw [wrap64 _ (by omega) (by omega)];omega)
       |exact congrArg (fun n:Int=>D.v (.int .i64 n)) (by omega)
    ·have f32:¬ ((j:Int)< (((List.map kcD (cmpY l (i+j))).length - i:Nat):Int)):=of_decide_eq_false e4
     refine⟨_,⟨by first|omega|decide,by first|omega|(simp;omega)|simp,rfl⟩,?_⟩
     refine⟨⟨by first|omega|decide,by first|omega|(simp only [List.length_append,List.length_take,List.length_replicate,List.length_map];omega)|(simp;omega)|simp⟩,?_⟩
     have hik:i+j=l.length:=by omega
     rw [hik] at*
     exact congrArg (fun m=>Ob.row _ 2 _ m true) (by simp [cmpY])
   ·refine⟨by kernel_rfl,?_⟩
    refine⟨fun e=>absurd e (by decide),fun _=> ?_⟩
    refine⟨i+1,⟨by omega,by omega,fun j h1 h2=>by
     by_cases e:j=i
     ·subst e;rw [hx19,hx24];exact fun e=>f25 ⟨congrArg Prod.fst (Option.some.inj e),congrArg Prod.snd (Option.some.inj e)⟩
     ·exact g2 j h1 (by omega)⟩,by simp only;omega,?_⟩
    constructor<;>(repeat' (first|exact rfl|exact True.intro|apply And.intro))
    all_goals first
     |exact congrArg (fun n:Int=>D.v (.int .i64 n)) (by rw [wrap64 _ (by omega) (by omega)];omega)
     |exact congrArg (fun n:Int=>D.v (.int .i64 n)) (by omega)
  ·have f13:¬ ((i:Int)< ((List.map kcD l).length:Int)):=of_decide_eq_false e2
   rw [Zaq (Nat.le_refl _) (fun j h1 h2=>g2 j h1 (by omega)),List.take_length]
   exact rfl
end
end Go.Proofs.YtcogfmileelkeaaDoor.eng
namespace Go.Proofs.YtcogfmileelkeaaDoor.argopen
open Go.RowKit Go.ChangeShapes Go.WideShapes Go.ChangeAt num mem seg q eng prf
variable {H : Type} {enc : TypeId × Value → H} {w : World} {base : Nat} {sp : Nat → Bool} {held : Bool} {I : Nat → Prop}
def Rcell (c:KC) (d:DataW H):Prop:=1≤Rows.uptoBulk d∧(-9223372036854775808≤c.1∧c.1≤9223372036854775807)∧(-9223372036854775808≤c.2∧c.2≤9223372036854775807)
theorem wf64 {k:Int} (hw:(Lit.int .i64 k).wf=true):-9223372036854775808≤k∧k≤9223372036854775807:=by simp [Lit.wf,IntKind.min,IntKind.max,IntKind.signed,IntKind.bits] at hw;omega
theorem Zgy {fuel:Nat} {cs:List Value} {x:DataW H×List MemPlace} (h:DataW.trod enc Tryd.prog w base sp held fuel 25 cs=some x):∃ a:KC,Rcell a x.1∧Cells w I cs (kcD a):=by
 obtain⟨y0,y1,n,rfl,hl,h0,h1⟩:=trod_struct2 Tryd.underlying25 h
 have hl2:cs.length=2:=hl.trans (by kernel_rfl)
 rw [show Tryd.prog.cellsOf 3=1 by kernel_rfl] at h0 h1
 obtain⟨k,e0,g0,w0⟩:=DataW.trod_int Tryd.underlying3 h0
 obtain⟨m,e1,g1,w1⟩:=DataW.trod_int Tryd.underlying3 h1
 match cs,hl2,e0,e1 with
 | [c0,c1],_,e0,e1=>
  simp at e0 e1
  subst e0 e1
  refine⟨(k,m),⟨?_,wf64 w0,wf64 w1⟩,(Cells.nil.cons (Den.v _ rfl)).cons (Den.v _ rfl)⟩
  simp only [Rows.uptoBulk];omega
def cellsZ (l:List KC) (B:Nat):Prop:=l.length≤B∧∀ c,c∈l→(-9223372036854775808≤c.1∧c.1≤9223372036854775807)∧(-9223372036854775808≤c.2∧c.2≤9223372036854775807)
theorem Zfz {l:List KC} {B C:Nat} (h:cellsZ l B) (hB:B≤C):cellsZ l C:=⟨Nat.le_trans h.1 hB,h.2⟩
theorem Zc6 {r:Reach} {b0:Nat} {v:Value} {d:DataW H} {ps:List MemPlace} (hval:Value.okWide Tryd.prog w r b0 22 v) (hd:DataW.Trod enc Tryd.prog w base sp held 22 v d ps) (hI:∀ b,b< w.heap.size→I b):
  ∃ l:List KC,Den w I v (.list (l.map kcD))∧cellsZ l (Rows.uptoBulk d):=by
 obtain⟨av,len,cap,rfl⟩:=okWide_slice Tryd.underlying22 hval
 obtain⟨fuel,hf⟩:=hd
 obtain⟨v,l,ds,g2,hdl,hr,hx⟩:=Zgx (R:=Rcell) (n:=2) kcD (by decide) (fun _=>rfl) Tryd.underlying22 (by kernel_rfl) (fun fuel cs x h=>Zgy h) hI hf
 obtain⟨h1,h2,h3⟩:=Zg8 (d:=d) hr hx fun a x h=>h.1
 obtain rfl:=(List.cons.inj g2).1
 exact⟨l,hdl,by omega,fun k hk=>by obtain⟨x,⟨_,a⟩,g⟩:=h3 k hk;exact a⟩
end Go.Proofs.YtcogfmileelkeaaDoor.argopen
