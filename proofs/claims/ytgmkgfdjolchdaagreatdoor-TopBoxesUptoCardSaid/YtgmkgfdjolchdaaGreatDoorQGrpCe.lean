/- Joined by wip/bundle.py: XCelA XCelB XShr0 XCelC XCelD XCelE. -/
import Derived.Test.YtgmkgfdjolchdaaGreatDoorQGrpDr
import Derived.Test.YtgmkgfdjolchdaaGreatDoorSortC
import Derived.Test.YtgmkgfdjolchdaaGreatDoorQGrpTa
import Derived.Test.YtgmkgfdjolchdaaGreatDoorQGrpSt
set_option maxRecDepth 100000
namespace Go.Proofs.YtgmkgfdjolchdaaGreatDoor.eng
open Go.RowKit num mem seg q held ratA ratB ratC ratD ratE vars ratF prf
section
variable {K : AV → Prop}
abbrev KC:=Int×Int
def kcD (c:KC):List D:= [D.v (.int .i64 c.1),D.v (.int .i64 c.2)]
def kcL (l:List KC):List D:= [D.list (List.map kcD l)]
def kcV (c:KC):List Value:= [.int .i64 c.1,.int .i64 c.2]
def cmpZ (x y:Int):Int:=if x< y then -1 else if y< x then 1 else 0
theorem ZoY {x y:Int}:cmpZ x y< 0↔x< y:=by unfold cmpZ;split<;>(try split)<;>omega
theorem Zev {x y:Int}:cmpZ x y=0↔x=y:=by unfold cmpZ;split<;>(try split)<;>omega
def ordZ (a b:KC):Int:=if cmpZ a.2 b.2=0 then cmpZ a.1 b.1 else cmpZ a.2 b.2
def kcLt (a b:KC):Prop:=a.2< b.2∨(a.2=b.2∧a.1< b.1)
theorem Zan {a b:KC}:ordZ a b< 0↔kcLt a b:=by
 unfold ordZ kcLt
 split
 ·rename_i h;rw [Zev] at h;rw [ZoY];omega
 ·rename_i h;rw [Zev] at h;rw [ZoY];omega
theorem Znr {a b:KC}:ordZ a b=0↔a=b:=by
 unfold ordZ
 split
 ·rename_i h;rw [Zev] at h;rw [Zev];exact⟨fun e=>Prod.ext e h,fun e=>by rw [e]⟩
 ·rename_i h;exact⟨fun e=>absurd e h,fun e=>absurd (Zev.2 (congrArg Prod.snd e)) h⟩
theorem Zb3 {a b c:KC} (h1:kcLt a b) (h2:kcLt b c):kcLt a c:=by unfold kcLt at*;omega
theorem Zly (a b:KC):kcLt a b∨a=b∨kcLt b a:=by
 by_cases h:a=b
 ·exact .inr (.inl h)
 ·have:a.1≠b.1∨a.2≠b.2:=by
   by_cases h1:a.1=b.1
   ·exact .inr fun h2=>h (Prod.ext h1 h2)
   ·exact .inl h1
  unfold kcLt;omega
theorem Zf3 {a:KC}:¬ kcLt a a:=by unfold kcLt;omega
theorem Zef (x:Int):Spec Tryz.prog Tab 158 [int x] (bool false):=by
 refine Za Tryz.func158 rfl rfl Tryz.ntmps158 rfl ωr rfl rfl ?_
 refine Eq.trans (b:=bool (x !=x)) ?_ rfl
 simp
theorem ZcP (x y:Int):Spec Tryz.prog Tab 128 [int x,int y] (int (cmpZ x y)):=by
 refine Za Tryz.func128 rfl rfl Tryz.ntmps128 rfl ωr rfl rfl ?_
 refine use (Zef x) rfl ?_
 refine use (Zef y) rfl ?_
 refine⟨fun e=>absurd e ωd,fun _=> ?_⟩
 refine⟨fun e=>absurd e ωd,fun _=> ?_⟩
 refine⟨fun e1=> ?_,fun e1=> ?_⟩
 ·have f16:x< y:=of_decide_eq_true e1
  refine Eq.trans (b:=int (-1)) ?_ rfl
  unfold cmpZ
  rw [if_pos f16]
 ·have f16:¬ (x< y):=of_decide_eq_false e1
  refine⟨fun e2=> ?_,fun e2=> ?_⟩
  ·have f19:x >y:=of_decide_eq_true e2
   refine Eq.trans (b:=int 1) ?_ rfl
   unfold cmpZ
   rw [if_neg f16,if_pos f19]
  ·have f19:¬ (x >y):=of_decide_eq_false e2
   refine Eq.trans (b:=int 0) ?_ rfl
   unfold cmpZ
   rw [if_neg f16,if_neg f19]
theorem Zcf (a b:KC):Spec Tryz.prog Tab 91 [cell a.1 a.2,cell b.1 b.2] (int (ordZ a b)):=by
 refine Za Tryz.func91 rfl rfl Tryz.ntmps91 rfl ωr rfl rfl ?_
 refine use (ZcP a.2 b.2) rfl ?_
 refine⟨fun e1=> ?_,fun e1=> ?_⟩
 ·have f12:cmpZ a.2 b.2≠0:=ZaD e1
  refine Eq.trans (b:=int (cmpZ a.2 b.2)) ?_ rfl
  unfold ordZ
  rw [if_neg f12]
 ·have f12:¬ (cmpZ a.2 b.2≠0):=fun hh=>hh (ZaE e1)
  refine use (ZcP a.1 b.1) rfl ?_
  refine Eq.trans (b:=int (cmpZ a.1 b.1)) ?_ rfl
  unfold ordZ
  rw [if_pos (Decidable.byContradiction f12)]
theorem ZjU:Go.Sort.SWO (ltOf fun (x y:KC)=>ordZ x y) where
 irrefl x:=by
  unfold ltOf
  rw [decide_eq_false]
  exact fun h=>Zf3 (Zan.1 h)
 trans x y z h1 h2:=by
  unfold ltOf at*
  exact decide_eq_true (Zan.2 (Zb3 (Zan.1 (of_decide_eq_true h1)) (Zan.1 (of_decide_eq_true h2))))
 ntrans x y z h1 h2:=by
  unfold ltOf at*
  have h1:=of_decide_eq_false h1
  have h2:=of_decide_eq_false h2
  refine decide_eq_false fun h3=> ?_
  rw [Zan] at h1 h2 h3
  unfold kcLt at*
  omega
theorem ZqC (p:KC):∀ v,v∈kcV p→flat v=true:=by
 intro v hv
 simp only [kcV,List.mem_cons,List.not_mem_nil,or_false] at hv
 rcases hv with rfl|rfl<;>rfl
theorem Zmy (l:List KC) (hn:l.length≤1048576):∃ l':List KC,l'.Perm l∧l'.Pairwise (fun x y=>¬ kcLt y x)∧
  SpecS Tryz.prog Tab 90 [.val (.one (.row 1000 0)),fv 91] 110 2 (l.map kcD) (.tup []) (l'.map kcD):=by
 obtain⟨l1,h1,h2,h3⟩:=ZmE (fun (x y:KC)=>ordZ x y) ZjU l
 refine⟨l1,h1,h2.imp fun {a b} h g=>h (Zan.2 g),?_⟩
 have hs:=ZmH (P:=Tryz.prog) (G:=Tab) (k:=2) (enc:=fun x:KC=>kcV x) Tryz.sortCell Tryz.isAgg110 Tryz.sizeOf110 (fun _=>rfl) ωd (fun x=>ZqC x) (fun x y=>ordZ x y) ZjU 91
   (Zm Tryz.func91 rfl rfl) (fun x y w hG=>Zgf (Zcf x y) rfl hG (Zim rfl)) 110 l ω
 rw [h3] at hs
 exact hs
def keptZ (l:List KC) (m:Nat):List KC:=(List.range m).filterMap fun i=>if i=0∨l[i]? ≠l[i - 1]? then l[i]? else none
theorem Zc4 (l:List KC) (m:Nat):keptZ l (m+1)=keptZ l m++(if m=0∨l[m]? ≠l[m - 1]? then l[m]? else none).toList:=by
 unfold keptZ
 rw [List.range_succ,List.filterMap_append]
 cases h:(if m=0∨l[m]? ≠l[m - 1]? then l[m]? else none)<;>simp [h]
theorem ZdB (l:List KC) (m:Nat):(keptZ l m).length≤m:=by
 have:=List.length_filterMap_le (fun i=>if i=0∨l[i]? ≠l[i - 1]? then l[i]? else none) (List.range m)
 simpa [keptZ] using this
theorem ZbJ {l:List KC} {m:Nat} {x:KC} (hx:l[m]? =some x) (h:m=0∨l[m - 1]? ≠some x):keptZ l (m+1)=keptZ l m++ [x]:=by
 rw [Zc4,if_pos (by rcases h with h|h;exact .inl h;right;rw [hx];exact fun e=>h e.symm),hx];rfl
theorem Zb2 {l:List KC} {m:Nat} {x:KC} (h0:0< m) (hx:l[m]? =some x) (h:l[m - 1]? =some x):keptZ l (m+1)=keptZ l m:=by
 rw [Zc4,if_neg (by rintro(e|e);omega;rw [hx,h] at e;exact e rfl)];simp
theorem Zbe {l:List KC}:∀ {m:Nat},m≤l.length→(∀ i,0< i→i< m→l[i]? ≠l[i - 1]?)→keptZ l m=l.take m
 |0,_,_=>rfl
 |m+1,h,hd=>by
  obtain⟨x,hx⟩:∃ x,l[m]? =some x:=⟨_,List.getElem?_eq_getElem ω⟩
  rw [ZbJ hx (by
   by_cases h0:m=0
   ·exact .inl h0
   ·right;rw [← hx];exact fun e=>hd m ω ω e.symm),Zbe ω fun i h1 h2=>hd i h1 ω,List.take_add_one,hx];rfl
def cmpY (l:List KC) (m:Nat):List KC:=keptZ l m++l.drop (keptZ l m).length
theorem Zq1 {l:List KC} {m:Nat} (h:m≤l.length):(cmpY l m).length=l.length:=by
 have:=ZdB l m
 simp only [cmpY,List.length_append,List.length_drop];omega
theorem ZtA {l:List KC} {m i:Nat} (h:(keptZ l m).length≤i):(cmpY l m)[i]? =l[i]? :=by
 unfold cmpY
 rw [List.getElem?_append_right h,List.getElem?_drop]
 congr 1;omega
theorem ZoZ {l:List KC} {m:Nat} (h:m≤l.length) (hd:∀ i,0< i→i< m→l[i]? ≠l[i - 1]?):cmpY l m=l:=by
 unfold cmpY
 rw [Zbe h hd,List.length_take,Nat.min_eq_left h,List.take_append_drop]
theorem Zo0 {l:List KC} {m:Nat} {x:KC} (h0:0< m) (hx:l[m]? =some x) (h:l[m - 1]? =some x):cmpY l (m+1)=cmpY l m:=by unfold cmpY;rw [Zb2 h0 hx h]
theorem Zq0 {l:List KC} {m:Nat} {x:KC} (hx:l[m]? =some x) (h:l[m - 1]? ≠some x):(cmpY l m).set (keptZ l m).length x=cmpY l (m+1):=by
 have hk:=ZdB l m
 have hm:m< l.length:=(List.getElem?_eq_some_iff.1 hx).1
 unfold cmpY
 rw [ZbJ hx (.inr h),List.set_append_right _ _ (Nat.le_refl _),Nat.sub_self,List.length_append,List.length_singleton,List.append_assoc]
 congr 1
 obtain⟨y,r,e⟩:∃ y r,l.drop (keptZ l m).length=y :: r:=by
  cases e:l.drop (keptZ l m).length with
  |nil=>have:=congrArg List.length e;rw [List.length_drop] at this;simp at this;omega
  |cons y r=>exact⟨y,r,rfl⟩
 rw [e,List.set_cons_zero,← List.drop_drop,e];rfl
theorem Zkb {l:List KC} {k:Nat} {x:KC} (h0:0< k) (hx:l[k]? =some x) (h:l[k - 1]? =some x):∀ j,1≤j→(keptZ l (k+j)).length< k+j
 |1,_=>by rw [Zb2 h0 hx h];have:=ZdB l k;omega
 |j+2,_=>by
  have ih:=Zkb h0 hx h (j+1) ω
  have:(keptZ l (k+(j+1)+1)).length≤(keptZ l (k+(j+1))).length+1:=by
   rw [Zc4,List.length_append]
   have:(if k+(j+1)=0∨l[k+(j+1)]? ≠l[k+(j+1) - 1]? then l[k+(j+1)]? else none).toList.length≤1:=by split<;>simp [Option.length_toList];split<;>omega
   omega
  rw [show k+(j+2)=k+(j+1)+1 by omega];omega
set_option maxHeartbeats 4000000 in
theorem Zfi (l:List KC) (hn:l.length≤1048576):SpecT Tryz.prog Tab 92 [.val (.one (.row 1000 0))] 110 2 (List.map kcD l) 110 2 (List.map kcD (keptZ l l.length)):=by
 have hL:(List.map kcD l).length=l.length:=List.length_map ..
 refine fn_T [] Tryz.func92 rfl rfl Tryz.ntmps92 rfl ωr rfl rfl ?_
 refine⟨fun e1=> ?_,fun e1=> ?_⟩
 ·have f8:((List.map kcD l).length:Int)< 2:=of_decide_eq_true e1
  rw [Zbe (Nat.le_refl _) (fun i h1 h2=>ω),List.take_length]
  exact rfl
 ·have f8:¬ (((List.map kcD l).length:Int)< 2):=of_decide_eq_false e1
  refine⟨Nat,fun i=> [(0,.val (.one (.row 1000 0))),(3,int (i:Int))],
   fun i=> [(1000,.row 110 2 0 (List.map kcD l) true)],fun i=>1≤i∧i≤l.length∧∀ j,0< j→j< i→l[j]? ≠l[j - 1]?,fun i=>l.length - i,1,?_,⟨ω,ω,fun j h1 h2=>ω⟩,fun i hs=> ?_⟩
  ·exact ωe
  obtain⟨g0,g1,g2⟩:=hs
  refine⟨fun e2=> ?_,fun e2=> ?_⟩
  ·have f13:(i:Int)< ((List.map kcD l).length:Int):=of_decide_eq_true e2
   refine k_at_own' i ωf (by first|omega|(simp only [List.length_set];omega)|(simp;omega)) ?_
   refine get_ex (l:=l) (i:=i) ωm fun x19 hx19=> ?_
   refine ZaQ [D.v (.int .i64 (x19.1)),D.v (.int .i64 (x19.2))] _ (Ze hx19) rfl rfl ?_
   refine k_at_own' (i - 1) ωf (by first|omega|(simp only [List.length_set];omega)|(simp;omega)) ?_
   refine get_ex (l:=l) (i:=(i - 1)) ωm fun x24 hx24=> ?_
   refine ZaQ [D.v (.int .i64 (x24.1)),D.v (.int .i64 (x24.2))] _ (Ze hx24) rfl rfl ?_
   refine Zhl (fun f25=> ?_) (fun f25=> ?_)
   ·refine⟨ωr,?_⟩
    refine⟨fun _=> ?_,fun e=>absurd e ωd⟩
    refine⟨_,⟨by first|omega|decide,by first|omega|(simp;omega)|simp,rfl⟩,?_⟩
    have e24:x19=x24:=Prod.ext f25.1 f25.2
    have hk1:=Zb2 (l:=l) (m:=i) ω hx19 (by rw [e24];exact hx24)
    have hkt:=Zbe (l:=l) (m:=i) ω g2
    have hkl:(keptZ l (i+1)).length=i:=by rw [hk1,hkt,List.length_take];omega
    have hct:=(Zo0 (l:=l) (m:=i) ω hx19 (by rw [e24];exact hx24)).trans (ZoZ ω g2)
    refine⟨Nat,fun j=> [(0,.val (.one (.row 1000 0))),(3,int ((keptZ l (i+j)).length:Int)),(4,.val (.one (.rs 1000 0 2 i))),(5,int (j:Int))],
     fun j=> [(1000,.row 110 2 0 (List.map kcD (cmpY l (i+j))) true)],fun j=>1≤j∧i+j≤l.length,fun j=>l.length - j,1,?_,⟨ω,ω⟩,fun j hs=> ?_⟩
    ·constructor<;>(repeat' (first|exact rfl|exact True.intro|exact⟨_,_,rfl⟩|exact ωd|apply And.intro))
     all_goals first
      |exact congrArg (fun n:Int=>D.v (.int .i64 n)) (by rw [hkl])
      |(rw [hct];done)
      |exact congrArg (List.map kcD) hct
      |exact congrArg (List.map kcD) hct.symm
      |exact Int.toNat_natCast i
      |exact(Int.toNat_natCast i).symm
    obtain⟨j1,j2⟩:=hs
    have hke:=Zkb (l:=l) (k:=i) ω hx19 (by rw [e24];exact hx24) j j1
    have hcl2:=Zq1 (l:=l) j2
    have hcl:(List.map kcD (cmpY l (i+j))).length=l.length:=by rw [List.length_map,hcl2]
    have hw1:IntKind.i64.wrap ((j:Int) - 1)=(j:Int) - 1:=wrap64 _ ω ω
    have cX:∀ (q:Nat) {x:KC},(keptZ l (i+j)).length≤q→l[q]? =some x→(cmpY l (i+j))[q]? =some x:=fun q x h1 h2=>by rw [ZtA h1];exact h2
    refine⟨fun e4=> ?_,fun e4=> ?_⟩
    ·have f32:(j:Int)< (((List.map kcD (cmpY l (i+j))).length - i:Nat):Int):=of_decide_eq_true e4
     refine⟨_,⟨ω,by first|omega|(simp;omega),rfl⟩,?_⟩
     refine get_ex (l:=l) (i:=(i+j)) ωm fun x38 hx38=> ?_
     refine ZaQ [D.v (.int .i64 (x38.1)),D.v (.int .i64 (x38.2))] _ (Ze (cX _ ω hx38)) rfl rfl ?_
     refine⟨_,⟨ω,by first|omega|(simp;omega),rfl⟩,?_⟩
     refine get_ex (l:=l) (i:=(i+j - 1)) ωm fun x43 hx43=> ?_
     refine ZaQ [D.v (.int .i64 (x43.1)),D.v (.int .i64 (x43.2))] _ (Ze (by rw [hw1,show i+((j:Int) - 1).toNat=i+j - 1 by omega];exact cX _ ω hx43)) rfl rfl ?_
     refine Zhj (fun f44=> ?_) (fun f44=> ?_)
     ·refine⟨ωr,?_⟩
      refine⟨fun e=>absurd e ωd,fun _=> ?_⟩
      have e47:x38=x43:=Prod.ext f44.1 f44.2
      have hkk:=Zb2 (l:=l) (m:=i+j) ω hx38 (by rw [e47];exact hx43)
      have hcc:=Zo0 (l:=l) (m:=i+j) ω hx38 (by rw [e47];exact hx43)
      refine⟨j+1,ω,by simp only;omega,?_⟩
      constructor<;>(repeat' (first|exact rfl|exact True.intro|apply And.intro))
      all_goals first
       |(rw [Nat.add_assoc] at hcc;rw [hcc];done)
       |exact congrArg (fun n:Int=>D.v (.int .i64 n)) (by rw [← Nat.add_assoc,hkk])
       |(rw [Nat.add_assoc] at hkk;rw [hkk];done)
       |exact ωb
       |exact ωa
     ·refine⟨ωr,?_⟩
      refine⟨fun _=> ?_,fun e=>absurd e ωd⟩
      refine⟨_,⟨ω,by first|omega|(simp;omega),rfl⟩,?_⟩
      refine ZaQ [D.v (.int .i64 (x38.1)),D.v (.int .i64 (x38.2))] _ (Ze (cX _ ω hx38)) rfl rfl ?_
      refine k_at_own' ((((keptZ l (i+j)).length:Int)).toNat) ωf (by first|omega|(simp only [List.length_set];omega)|(simp;omega)) ?_
      refine⟨by first|omega|(simp only [List.length_set];omega)|(simp;omega),?_⟩
      have g44:¬ x38=x43:=fun e=>f44 ⟨congrArg Prod.fst e,congrArg Prod.snd e⟩
      have hkk:=ZbJ hx38 (.inr (by rw [hx43];exact fun e=>g44 (Option.some.inj e).symm))
      have hcc:=Zq0 hx38 (by rw [hx43];exact fun e=>g44 (Option.some.inj e).symm)
      refine⟨j+1,ω,by simp only;omega,?_⟩
      constructor<;>(repeat' (first|exact rfl|exact True.intro|apply And.intro))
      all_goals first
       |(rw [Nat.add_assoc] at hcc;rw [← hcc,List.map_set];rfl)
       |exact congrArg (fun n:Int=>D.v (.int .i64 n)) (by rw [wrap64 _ ω ω,← Nat.add_assoc,hkk,List.length_append];simp)
       |exact ωb
       |exact ωa
    ·have f32:¬ ((j:Int)< (((List.map kcD (cmpY l (i+j))).length - i:Nat):Int)):=of_decide_eq_false e4
     refine⟨_,⟨by first|omega|decide,by first|omega|(simp;omega)|simp,rfl⟩,?_⟩
     refine⟨⟨by first|omega|decide,by first|omega|(simp only [List.length_append,List.length_take,List.length_replicate,List.length_map];omega)|(simp;omega)|simp⟩,?_⟩
     have hik:i+j=l.length:=ω
     rw [hik] at*
     exact congrArg (fun m=>Ob.row _ 2 _ m true) (by simp [cmpY])
   ·refine⟨ωr,?_⟩
    refine⟨fun e=>absurd e ωd,fun _=> ?_⟩
    refine⟨i+1,⟨ω,ω,fun j h1 h2=>by
     by_cases e:j=i
     ·subst e;rw [hx19,hx24];exact fun e=>f25 ⟨congrArg Prod.fst (Option.some.inj e),congrArg Prod.snd (Option.some.inj e)⟩
     ·exact g2 j h1 ω⟩,by simp only;omega,?_⟩
    constructor<;>(repeat' (first|exact rfl|exact True.intro|apply And.intro))
    all_goals first
     |exact ωb
     |exact ωa
  ·have f13:¬ ((i:Int)< ((List.map kcD l).length:Int)):=of_decide_eq_false e2
   rw [Zbe (Nat.le_refl _) (fun j h1 h2=>g2 j h1 ω),List.take_length]
   exact rfl
end
section
variable {K : AV → Prop}
theorem ZtK:Tryz.prog.underlying 3=some (.int .i64):=ωr
theorem Zhs {α:Type} {L:List (List α)} {i:Nat} {m:List α} (h:L[i]? =some m):(L.take (i+1)).flatten.length=(L.take i).flatten.length+m.length:=by
 rw [List.take_add_one,h,List.flatten_append,List.length_append];simp
theorem Zf7 {α:Type} (L:List (List α)) (i:Nat):(L.take i).flatten.length≤L.flatten.length:=by
 have e:L.flatten=(L.take i).flatten++(L.drop i).flatten:=by rw [← List.flatten_append,List.take_append_drop]
 rw [e,List.length_append];omega
theorem Zff {α β:Type} (g:α→β) {L:List (List α)} {i:Nat} {m:List α} (h:L[i]? =some m):List.map g (L.take (i+1)).flatten=List.map g (L.take i).flatten++List.map g m:=by
 rw [List.take_add_one,h,List.flatten_append,List.map_append];simp
theorem ZjM {R:KC→KC→Prop} {s:List KC} (h:s.Pairwise R) {i j:Nat} {a b:KC} (hij:i< j) (ha:s[i]? =some a) (hb:s[j]? =some b):R a b:=by
 obtain⟨h1,rfl⟩:=List.getElem?_eq_some_iff.1 ha
 obtain⟨h2,rfl⟩:=List.getElem?_eq_some_iff.1 hb
 exact List.pairwise_iff_getElem.1 h i j h1 h2 hij
theorem Zhf (l:List KC):∀ m,m≤l.length→∀ q,q∈keptZ l m↔q∈l.take m
 |0,_,q=>by simp [keptZ]
 |m+1,h,q=>by
  have hx:l[m]? =some (l[m]' ω):=List.getElem?_eq_getElem ω
  have ih:=Zhf l m ω q
  by_cases hd:m=0∨l[m - 1]? ≠l[m]?
  ·rw [ZbJ hx (by rw [← hx];exact hd),List.take_add_one,hx]
   simp only [List.mem_append,Option.toList_some,ih]
  ·have h0:0< m:=ω
   have hs:l[m - 1]? =l[m]? :=Decidable.byContradiction fun e=>hd (.inr e)
   rw [Zb2 h0 hx (hs.trans hx),List.take_add_one,hx,List.mem_append,ih]
   refine⟨.inl,fun g=>g.elim id fun g=> ?_⟩
   obtain rfl:q=l[m]' ω:=by simpa using g
   have h2:(l.take m)[m - 1]? =some (l[m]' ω):=by rw [List.getElem?_take_of_lt ω,hs,hx]
   exact List.mem_of_getElem? h2
theorem Zka {l:List KC} (hs:l.Pairwise fun x y=>¬ kcLt y x):∀ m,m≤l.length→(keptZ l m).Pairwise kcLt∧∀ q,q∈keptZ l m→∀ x,l[m - 1]? =some x→0< m→q=x∨kcLt q x
 |0,_=>⟨by simp [keptZ],fun q hq=>by simp [keptZ] at hq⟩
 |m+1,h=>by
  have hx:l[m]? =some (l[m]' ω):=List.getElem?_eq_getElem ω
  obtain⟨i1,i2⟩:=Zka hs m ω
  by_cases hd:m=0∨l[m - 1]? ≠l[m]?
  ·rw [ZbJ hx (by rw [← hx];exact hd)]
   have hlt:∀ q,q∈keptZ l m→kcLt q (l[m]' ω):=by
    intro q hq
    rcases Nat.eq_zero_or_pos m with rfl|hm0
    ·simp [keptZ] at hq
    ·have hd:=hd.resolve_left ω
     have hy:l[m - 1]? =some (l[m - 1]' ω):=List.getElem?_eq_getElem ω
     have hyx:kcLt (l[m - 1]' ω) (l[m]' ω):=by
      rcases Zly (l[m - 1]' ω) (l[m]' ω) with g|g|g
      ·exact g
      ·exact absurd (by rw [hy,hx,g]) hd
      ·exact absurd g (ZjM hs ω hy hx)
     rcases i2 q hq _ hy hm0 with rfl|g
     ·exact hyx
     ·exact Zb3 g hyx
   refine⟨List.pairwise_append.2 ⟨i1,List.pairwise_singleton ..,fun a ha b hb=> ?_⟩,fun q hq x h2 _=> ?_⟩
   ·rw [List.mem_singleton.1 hb];exact hlt a ha
   ·rw [Nat.add_sub_cancel,hx] at h2
    rw [← Option.some.inj h2]
    rcases List.mem_append.1 hq with g|g
    ·exact .inr (hlt q g)
    ·exact .inl (List.mem_singleton.1 g)
  ·have h0:0< m:=ω
   have hs':l[m - 1]? =l[m]? :=Decidable.byContradiction fun e=>hd (.inr e)
   rw [Zb2 h0 hx (hs'.trans hx)]
   exact⟨i1,fun q hq x h2 _=>i2 q hq x (by rw [hs'];rwa [Nat.add_sub_cancel] at h2) h0⟩
theorem Zl0 (n:Nat) (h0:0< n) (hn:n≤1048576):SpecR Tryz.prog Tab 125 [.val (.one (.d (.v (.slice none 0 0)))),int (n:Int)] 110 2 ([]):=by
 have hwn:IntKind.i64.wrap ((n:Int) - 0)=(n:Int):=by rw [Int.sub_zero];exact wrap64 _ ω ω
 refine Zou Tryz.func125 rfl rfl Tryz.ntmps125 rfl ωr rfl rfl ?_
 refine⟨fun e1=> ?_,fun e1=> ?_⟩
 ·have f6:(n:Int)< 0:=of_decide_eq_true e1
  exfalso
  omega
 ·have f6:¬ ((n:Int)< 0):=of_decide_eq_false e1
  refine⟨fun e2=> ?_,fun e2=> ?_⟩
  ·have f16:IntKind.i64.wrap ((n:Int) - 0) >0:=of_decide_eq_true e2
   refine⟨_,⟨rfl,rfl⟩,?_⟩
   refine⟨⟨⟨_,ZtK⟩,by show 0< IntKind.i64.wrap ((n:Int) - 0);rw [hwn];omega,by show IntKind.i64.wrap ((n:Int) - 0)*16≤_;rw [hwn];omega,by show IntKind.i64.wrap ((n:Int) - 0)≤_;rw [hwn];omega⟩,?_⟩
   refine⟨⟨by first|omega|decide,by first|omega|(simp only [List.length_append,List.length_take,List.length_replicate,List.length_map];omega)|(simp;omega)|simp⟩,?_⟩
   exact rfl
  ·have f16:¬ (IntKind.i64.wrap ((n:Int) - 0) >0):=of_decide_eq_false e2
   exfalso
   rw [hwn] at f16;omega
theorem Zdk (L:List (List KC)) (h0:0< L.flatten.length) (hfl:L.flatten.length≤1048576) (hn:L.length≤1048576):SpecR Tryz.prog Tab 89 [.val (.one (.d (.list (List.map kcL L))))] 110 2 (List.map kcD L.flatten):=by
 have hLl:(List.map kcL L).length=L.length:=List.length_map ..
 refine Zc9 [24] Tryz.func89 rfl rfl Tryz.ntmps89 rfl ωr rfl rfl ?_
 refine⟨Nat,fun i=> [(0,.val (.one (.d (.list (List.map kcL L))))),(3,int ((L.take i).flatten.length:Int)),(9,.val (.one (.d (.list (List.map kcL L))))),(10,int ((List.map kcL L).length:Int)),(11,int (i:Int))],
  fun i=> [],fun i=>i≤L.length,fun i=>L.length - i,0,?_,Nat.zero_le _,fun i hs=> ?_⟩
 ·exact ωe
 refine⟨fun e1=> ?_,fun e1=> ?_⟩
 ·have f12:(i:Int)< ((List.map kcL L).length:Int):=of_decide_eq_true e1
  refine get_ex (l:=L) (i:=i) ωm fun x13 hx13=> ?_
  have hmx13:(List.map kcD x13).length=x13.length:=List.length_map ..
  have hfx13:=Zhs hx13
  have hgx13:=Zf7 L (i+1)
  refine k_ix i [D.list (List.map kcD x13)] ωf (Ze hx13) rfl ?_
  refine⟨fun e2=> ?_,fun e2=> ?_⟩
  ·have f20:IntKind.i64.wrap (((L.take i).flatten.length:Int)+((List.map kcD x13).length:Int))< 0:=of_decide_eq_true e2
   exfalso
   rw [wrap64 _ ω ω] at f20;omega
  ·have f20:¬ (IntKind.i64.wrap (((L.take i).flatten.length:Int)+((List.map kcD x13).length:Int))< 0):=of_decide_eq_false e2
   refine⟨i+1,ω,by simp only;omega,?_⟩
   constructor<;>(repeat' (first|exact rfl|exact True.intro|apply And.intro))
   all_goals first
    |exact ωb
    |exact ωb
    |exact ωa
 ·have f12:¬ ((i:Int)< ((List.map kcL L).length:Int)):=of_decide_eq_false e1
  have hgr:=Zl0 L.flatten.length h0 hfl
  have hLi:(L.take i).flatten.length=L.flatten.length:=by rw [show i=L.length by omega,List.take_length]
  rw [← hLi] at hgr
  refine useN hgr ?_
  refine⟨Nat,fun i=> [(6,.val (.one (.row 24 0))),(25,.val (.one (.d (.list (List.map kcL L))))),(26,int ((List.map kcL L).length:Int)),(27,int (i:Int))],
   fun i=> [(24,.row 110 2 0 (List.map kcD ((L.take i).flatten)) true)],fun i=>i≤L.length,fun i=>L.length - i,0,?_,Nat.zero_le _,fun i hs=> ?_⟩
  ·exact ωe
  have hT:(List.map kcD (L.take i).flatten).length=(L.take i).flatten.length:=List.length_map ..
  have hg0:=Zf7 L i
  refine⟨fun e3=> ?_,fun e3=> ?_⟩
  ·have f28:(i:Int)< ((List.map kcL L).length:Int):=of_decide_eq_true e3
   refine get_ex (l:=L) (i:=i) ωm fun x29 hx29=> ?_
   have hmx29:(List.map kcD x29).length=x29.length:=List.length_map ..
   have hfx29:=Zhs hx29
   have hgx29:=Zf7 L (i+1)
   refine k_ix i [D.list (List.map kcD x29)] ωf (Ze hx29) rfl ?_
   refine⟨⟨(Zf1 fun _=>rfl),(by show ((List.map kcD ((L.take i).flatten)).length+(List.map kcD x29).length)*16≤_;omega),(by show ((List.map kcD ((L.take i).flatten)).length+(List.map kcD x29).length)≤_;omega)⟩,?_⟩
   refine⟨i+1,ω,by simp only;omega,?_⟩
   constructor<;>(repeat' (first|exact rfl|exact True.intro|apply And.intro))
   all_goals first
    |exact(Zff kcD hx29).symm
    |exact Zff kcD hx29
    |exact ωb
    |exact ωa
  ·have f28:¬ ((i:Int)< ((List.map kcL L).length:Int)):=of_decide_eq_false e3
   exact congrArg (fun m=>Ob.row _ 2 _ (List.map kcD (List.flatten m)) true) (List.take_of_length_le ω)
theorem ZmF (L:List (List KC)) (h0:0< L.flatten.length) (hfl:L.flatten.length≤1048576) (hn:L.length≤1048576) (M:List KC) (hM:M.length≤1048576) (hS:SpecS Tryz.prog Tab 90 [.val (.one (.row 1000 0)),fv 91] 110 2 (L.flatten.map kcD) (.tup []) (M.map kcD)):SpecR Tryz.prog Tab 45 [.val (.one (.d (.list (List.map kcL L))))] 110 2 (List.map kcD (keptZ M M.length)):=by
 refine Zc9 [5,500007,9] Tryz.func45 rfl rfl Tryz.ntmps45 rfl ωr rfl rfl ?_
 refine useN (Zdk L h0 hfl hn) ?_
 refine⟨.tup [],List.map kcD M,⟨rfl,hS⟩,?_⟩
 refine⟨_,_,_,Zfi M hM,?_⟩
 exact rfl
theorem ZmG (L:List (List KC)) (h0:0< L.flatten.length) (hfl:L.flatten.length≤1048576) (hn:L.length≤1048576) (M:List KC) (hM:M.length≤1048576) (hS:SpecS Tryz.prog Tab 90 [.val (.one (.row 1000 0)),fv 91] 110 2 (L.flatten.map kcD) (.tup []) (M.map kcD)):Spec Tryz.prog Tab 45 [.val (.one (.d (.list (List.map kcL L))))] (.val (.one (.d (.list (List.map kcD (keptZ M M.length)))))):=by
 refine Zej [5,500007,9] Tryz.func45 rfl rfl Tryz.ntmps45 rfl ωr rfl rfl ?_
 refine useN (Zdk L h0 hfl hn) ?_
 refine⟨.tup [],List.map kcD M,⟨rfl,hS⟩,?_⟩
 refine⟨_,_,_,Zfi M hM,?_⟩
 refine Eq.trans (b:= .val (.one (.d (.list (List.map kcD (keptZ M M.length)))))) ?_ rfl
 rfl
theorem sortedZ (L:List (List KC)) (h0:0< L.flatten.length) (hfl:L.flatten.length≤1048576) (hn:L.length≤1048576):∃ M:List KC,M.Pairwise kcLt∧(∀ c,c∈M↔c∈L.flatten)∧M.length≤L.flatten.length∧
  SpecR Tryz.prog Tab 45 [.val (.one (.d (.list (List.map kcL L))))] 110 2 (List.map kcD M)∧Spec Tryz.prog Tab 45 [.val (.one (.d (.list (List.map kcL L))))] (.val (.one (.d (.list (List.map kcD M))))):=by
 obtain⟨M,h1,h2,h3⟩:=Zmy L.flatten hfl
 have hl:=h1.length_eq
 exact⟨keptZ M M.length,(Zka h2 M.length (Nat.le_refl _)).1,fun c=>by rw [Zhf M M.length (Nat.le_refl _),List.take_length];exact h1.mem_iff,by have:=ZdB M M.length;omega,ZmF L h0 hfl hn M ω h3,ZmG L h0 hfl hn M ω h3⟩
end
section
variable {K : AV → Prop} {T : TypeId} {ox oy : Operand}
theorem bwz64 {m:Int} (h0:0≤m) (h1:m< 18446744073709551616):IntKind.u64.wrap m=m:=by
 unfold IntKind.wrap
 simp [IntKind.signed,IntKind.bits]
 omega
theorem ZpL (T:TypeId) (ox oy:Operand) (k:IntKind) (n r:Nat) (hr:r≤64) (w:World):(do eqGuard .shr T ox oy (.int .u64 (n:Int)) (.int k (r:Int));binOp .shr T (.int .u64 (n:Int)) (.int k (r:Int)):Sem Value).run Tryz.prog w= .ok (.int .u64 ((n / 2 ^ r:Nat):Int)) w:=by
 have hg:eqGuard .shr T ox oy (.int .u64 (n:Int)) (.int k (r:Int))=pure ():=rfl
 rw [hg,binOp_shr]
 unfold Op.shift
 rw [if_neg ω]
 have hm:min (r:Int).toNat IntKind.u64.bits=r:=by rw [Int.toNat_natCast];exact Nat.min_eq_left hr
 have e1:(n:Int).fdiv (2 ^ r)=((n / 2 ^ r:Nat):Int):=by
  have:(2:Int) ^ r=((2 ^ r:Nat):Int):=by rw [Int.natCast_pow];rfl
  rw [this,Int.fdiv_eq_ediv_of_nonneg _ (Int.natCast_nonneg _)]
  exact(Int.natCast_ediv _ _).symm
 simp only [hm,e1]
 rfl
theorem ZuW {k:IntKind} {x y:Int} (n r d:Nat) (hx:x=n) (hy:y=r) (hd:2 ^ r=d) (hr:r≤64) (k1:K (one (.int .u64 ((n / d:Nat):Int)))):AskB .shr T ox oy (.int .u64 x) (.int k y) K:=by
 subst hx hy hd
 exact⟨_,⟨_,rfl,rfl,ZpL T ox oy k n r hr⟩,k1⟩
end
section
variable {K : AV → Prop}
def bsZ (l:List KC) (c:KC):Nat:=(l.filter fun x=>decide (ordZ x c< 0)).length
theorem Zr5 {l:List KC} {c:KC} {a:Nat} (ha:a≤l.length) (h1:∀ i x,i< a→l[i]? =some x→ordZ x c< 0) (h2:∀ i x,a≤i→l[i]? =some x→¬ ordZ x c< 0):bsZ l c=a:=by
 have e:l=l.take a++l.drop a:=(List.take_append_drop a l).symm
 unfold bsZ
 rw [e,List.filter_append,List.filter_eq_self.2 ?_,List.filter_eq_nil_iff.2 ?_,List.append_nil,List.length_take]
 ·omega
 ·intro x hx
  obtain⟨i,hi⟩:=List.getElem?_of_mem hx
  rw [List.getElem?_drop] at hi
  simpa using h2 (a+i) x ω hi
 ·intro x hx
  obtain⟨i,hi⟩:=List.getElem?_of_mem hx
  have hia:i< a:=by
   rcases Nat.lt_or_ge i a with g|g
   ·exact g
   ·rw [List.getElem?_eq_none (by rw [List.length_take];omega)] at hi;simp at hi
  rw [List.getElem?_take_of_lt hia] at hi
  exact decide_eq_true (h1 i x hia hi)
theorem ZvI {l:List KC} {c x:KC} {m:Nat} (hs:l.Pairwise kcLt) (hx:l[m]? =some x) (h:ordZ x c< 0):∀ i y,i< m+1→l[i]? =some y→ordZ y c< 0:=by
 intro i y hi hy
 by_cases e:i=m
 ·subst e;rw [hx] at hy;rw [← Option.some.inj hy];exact h
 ·exact Zan.2 (Zb3 (ZjM hs (show i< m by omega) hy hx) (Zan.1 h))
theorem ZtL {l:List KC} {c x:KC} {m:Nat} (hs:l.Pairwise kcLt) (hx:l[m]? =some x) (h:¬ ordZ x c< 0):∀ i y,m≤i→l[i]? =some y→¬ ordZ y c< 0:=by
 intro i y hi hy g
 by_cases e:i=m
 ·subst e;rw [hx] at hy;rw [← Option.some.inj hy] at g;exact h g
 ·exact h (Zan.2 (Zb3 (ZjM hs (show m< i by omega) hx hy) (Zan.1 g)))
theorem ZvH {l:List KC} {c x:KC} {a:Nat} (hs:l.Pairwise kcLt) (hx:l[a]? =some x) (h1:∀ i x,i< a→l[i]? =some x→ordZ x c< 0) (h2:∀ i x,a≤i→l[i]? =some x→¬ ordZ x c< 0):decide (c∈l)=(ordZ x c==0):=by
 rw [Bool.eq_iff_iff]
 simp only [decide_eq_true_eq,beq_iff_eq]
 constructor
 ·intro hc
  obtain⟨i,hi⟩:=List.getElem?_of_mem hc
  rcases Nat.lt_trichotomy i a with g|g|g
  ·have:=h1 i c g hi;rw [Zan] at this;exact absurd this Zf3
  ·subst g;rw [hx] at hi;rw [Option.some.inj hi];exact Znr.2 rfl
  ·exact absurd (Zan.2 (ZjM hs g hx hi)) (h2 a x (Nat.le_refl _) hx)
 ·intro h
  rw [← Znr.1 h];exact List.mem_of_getElem? hx
theorem Zwi {l:List KC} {c:KC} {a:Nat} (ha:l.length≤a) (h1:∀ i x,i< a→l[i]? =some x→ordZ x c< 0):decide (c∈l)=false:=by
 refine decide_eq_false fun hc=> ?_
 obtain⟨i,hi⟩:=List.getElem?_of_mem hc
 have hil:=(List.getElem?_eq_some_iff.1 hi).1
 have:=h1 i c ω hi
 rw [Zan] at this;exact Zf3 this
theorem Zgh (l:List KC) (c:KC) (hs0:l.Pairwise kcLt) (hn:l.length≤1048576):Spec Tryz.prog Tab 94 [.val (.one (.d (.list (List.map kcD l)))),cell c.1 c.2,fv 91] (.tup [.one (.d (.v (.int .i64 ((bsZ l c:Int))))),.one (.d (.v (.bool (decide (c∈l)))))]):=by
 have hL:(List.map kcD l).length=l.length:=List.length_map ..
 refine Za Tryz.func94 rfl rfl Tryz.ntmps94 rfl ωr rfl rfl ?_
 refine⟨Nat×Nat,fun (a,b)=> [(0,.val (.one (.d (.list (List.map kcD l))))),(2,fv 91),(4,.val (.one (.ptr 4 0))),(8,int ((List.map kcD l).length:Int)),(9,int (a:Int)),(10,int (b:Int))],
  fun (a,b)=> [(4,.var 110 [.d (.v (.int .i64 (c.1))),.d (.v (.int .i64 (c.2)))])],fun (a,b)=>a≤b∧b≤l.length∧(∀ i x,i< a→l[i]? =some x→ordZ x c< 0)∧(∀ i x,b≤i→l[i]? =some x→¬ ordZ x c< 0),fun (a,b)=>b - a,(0,l.length),?_,⟨Nat.zero_le _,Nat.le_refl _,fun i x h=>ω,fun i x h hx=>by have:=(List.getElem?_eq_some_iff.1 hx).1;omega⟩,fun s hs=> ?_⟩
 ·exact ωe
 obtain⟨a,b⟩:=s
 obtain⟨g1,g2,g3,g4⟩:=hs
 refine⟨fun e1=> ?_,fun e1=> ?_⟩
 ·have f17:(a:Int)< (b:Int):=of_decide_eq_true e1
  refine Zhn (k':= .u64) ωr ωr ((a+b:Nat):Int) (by rw [wrap64 _ ω ω,bwz64 ω ω];omega) ?_
  refine ZuW (a+b) 1 2 rfl rfl ωd ωd ?_
  refine Zhn (k':= .i64) ωr ωr (((a+b) / 2:Nat):Int) (by rw [wrap64 _ ω ω]) ?_
  refine get_ex (l:=l) (i:=((a+b) / 2)) ωm fun x27 hx27=> ?_
  refine k_ix ((a+b) / 2) [D.v (.int .i64 (x27.1)),D.v (.int .i64 (x27.2))] ωf (Ze hx27) rfl ?_
  refine use (Zcf x27 c) rfl ?_
  refine⟨ωr,?_⟩
  refine⟨fun e2=> ?_,fun e2=> ?_⟩
  ·have f31:ordZ x27 c< 0:=of_decide_eq_true e2
   refine⟨((a+b) / 2+1,b),⟨ω,ω,ZvI hs0 hx27 f31,g4⟩,by simp only;omega,?_⟩
   constructor<;>(repeat' (first|exact rfl|exact True.intro|apply And.intro))
   all_goals first
    |exact ωb
    |exact ωa
  ·have f31:¬ (ordZ x27 c< 0):=of_decide_eq_false e2
   refine⟨(a,(a+b) / 2),⟨ω,ω,g3,ZtL hs0 hx27 f31⟩,by simp only;omega,?_⟩
   constructor<;>(repeat' (first|exact rfl|exact True.intro|apply And.intro))
   all_goals first
    |exact ωb
    |exact ωa
 ·have f17:¬ ((a:Int)< (b:Int)):=of_decide_eq_false e1
  refine fork (fun e3=> ?_) (fun e3=> ?_)
  ·have f39:(a:Int)< ((List.map kcD l).length:Int):=of_decide_eq_true e3
   refine get_ex (l:=l) (i:=a) ωm fun x43 hx43=> ?_
   refine k_ix a [D.v (.int .i64 (x43.1)),D.v (.int .i64 (x43.2))] ωf (Ze hx43) rfl ?_
   refine use (Zcf x43 c) rfl ?_
   refine⟨ωr,?_⟩
   refine Eq.trans (b:= .tup [.one (.d (.v (.int .i64 ((a:Int))))),.one (.d (.v (.bool (ordZ x43 c==0))))]) ?_ rfl
   obtain rfl:a=b:=ω
   rw [Zr5 g2 g3 g4]
   rw [ZvH hs0 hx43 g3 g4]
  ·have f39:¬ ((a:Int)< ((List.map kcD l).length:Int)):=of_decide_eq_false e3
   refine⟨ωr,?_⟩
   refine Eq.trans (b:= .tup [.one (.d (.v (.int .i64 ((a:Int))))),.one (.d (.v (.bool (false))))]) ?_ rfl
   obtain rfl:a=b:=ω
   rw [Zr5 g2 g3 g4]
   rw [Zwi ω g3]
theorem Zol (l:List KC) (c:KC) (hs0:l.Pairwise kcLt) (hn:l.length≤1048576):Spec Tryz.prog Tab 48 [.val (.one (.d (.list (List.map kcD l)))),cell c.1 c.2] (bool (decide (c∈l))):=by
 refine Za Tryz.func48 rfl rfl Tryz.ntmps48 rfl ωr rfl rfl ?_
 refine use (Zgh l c ωs ωs) rfl ?_
 refine Eq.trans (b:=bool (decide (c∈l))) ?_ rfl
 rfl
end
section
variable {K : AV → Prop}
def fiZ (p:KC→Bool) (l:List KC):Int:=match l.findIdx? p with
 |some i=>(i:Int)
 |none=> -1
theorem Zvq {p:KC→Bool} {l:List KC} {i:Nat} {x:KC} (hx:l[i]? =some x) (h:p x=true) (h1:∀ (j:Nat) (y:KC),j< i→l[j]? =some y→p y=false):fiZ p l=(i:Int):=by
 have:l.findIdx? p=some i:=by
  rw [List.findIdx?_eq_some_iff_getElem]
  obtain⟨hi,rfl⟩:=List.getElem?_eq_some_iff.1 hx
  exact⟨hi,h,fun j hj=>by have:=h1 j _ hj (List.getElem?_eq_getElem ω);rw [this];decide⟩
 unfold fiZ;rw [this]
theorem Zvp {p:KC→Bool} {l:List KC} (h:∀ (j:Nat) (y:KC),l[j]? =some y→p y=false):fiZ p l=-1:=by
 have:l.findIdx? p=none:=by
  rw [List.findIdx?_eq_none_iff]
  intro x hx
  obtain⟨j,hj⟩:=List.getElem?_of_mem hx
  rw [h j x hj]
 unfold fiZ;rw [this]
theorem Zox (p:KC→Bool) (l:List KC):(fiZ p l=-1∧∀ x,x∈l→p x=false)∨∃ (i:Nat) (x:KC),fiZ p l=(i:Int)∧l[i]? =some x∧p x=true∧∀ (j:Nat) (y:KC),j< i→l[j]? =some y→p y=false:=by
 unfold fiZ
 cases h:l.findIdx? p with
 |none=>exact .inl ⟨rfl,fun x hx=>by have:=List.findIdx?_eq_none_iff.1 h x hx;simpa using this⟩
 |some i=>
  obtain⟨hi,h1,h2⟩:=List.findIdx?_eq_some_iff_getElem.1 h
  exact .inr ⟨i,l[i],rfl,List.getElem?_eq_getElem hi,h1,fun j y hj hy=>by
   obtain⟨hj2,rfl⟩:=List.getElem?_eq_some_iff.1 hy
   have:=h2 j hj;simpa using this⟩
def noP (B:List KC) (c:KC):Bool:= !decide (c∈B)
theorem Zpq (B:List KC) (c:KC) (hB:B.Pairwise kcLt) (hBn:B.length≤1048576):Spec Tryz.prog Tab 47 [cell c.1 c.2,.val (.one (.ref [D.list (List.map kcD B)]))] (bool (noP B c)):=by
 refine Za Tryz.func47 rfl rfl Tryz.ntmps47 rfl ωr rfl rfl ?_
 refine use (Zol B c hB hBn) rfl ?_
 refine Eq.trans (b:=bool (!(decide (c∈B)))) ?_ rfl
 rfl
theorem Ztf (B l:List KC) (hB:B.Pairwise kcLt) (hBn:B.length≤1048576) (hn:l.length≤1048576):Spec Tryz.prog Tab 93 [.val (.one (.d (.list (List.map kcD l)))),.val (.one (.d (.fn 47 [[D.list (List.map kcD B)]])))] (int (fiZ (noP B) l)):=by
 have hL:(List.map kcD l).length=l.length:=List.length_map ..
 refine Za Tryz.func93 rfl rfl Tryz.ntmps93 rfl ωr rfl rfl ?_
 refine⟨Nat,fun i=> [(0,.val (.one (.d (.list (List.map kcD l))))),(1,.val (.one (.d (.fn 47 [[D.list (List.map kcD B)]])))),(7,int ((List.map kcD l).length:Int)),(8,int (i:Int))],
  fun i=> [],fun i=>i≤l.length∧∀ (j:Nat) (y:KC),j< i→l[j]? =some y→noP B y=false,fun i=>l.length - i,0,?_,⟨Nat.zero_le _,fun j y h=>ω⟩,fun i hs=> ?_⟩
 ·exact ωe
 obtain⟨g1,g2⟩:=hs
 refine⟨fun e1=> ?_,fun e1=> ?_⟩
 ·have f9:(i:Int)< ((List.map kcD l).length:Int):=of_decide_eq_true e1
  refine get_ex (l:=l) (i:=i) ωm fun x14 hx14=> ?_
  refine k_ix i [D.v (.int .i64 (x14.1)),D.v (.int .i64 (x14.2))] ωf (Ze hx14) rfl ?_
  refine use (Zpq B x14 hB hBn) rfl ?_
  refine⟨fun e2=> ?_,fun e2=> ?_⟩
  ·have f16:noP B x14=true:=e2
   refine Eq.trans (b:=int (i:Int)) ?_ rfl
   rw [Zvq hx14 f16 g2]
  ·have f16:¬ (noP B x14=true):=(Bool.eq_false_iff.1 e2)
   refine⟨i+1,⟨ω,fun j y hj hy=>by
    by_cases e:j=i
    ·subst e;rw [hx14] at hy;rw [← Option.some.inj hy];exact Bool.eq_false_iff.2 f16
    ·exact g2 j y ω hy⟩,by simp only;omega,?_⟩
   constructor<;>(repeat' (first|exact rfl|exact True.intro|apply And.intro))
   all_goals first
    |exact ωb
    |exact ωa
 ·have f9:¬ ((i:Int)< ((List.map kcD l).length:Int)):=of_decide_eq_false e1
  refine Eq.trans (b:=int (-1)) ?_ rfl
  rw [Zvp fun j y hy=>g2 j y (by have:=(List.getElem?_eq_some_iff.1 hy).1;omega) hy]
end
section
variable {K : AV → Prop}
theorem ZqX (B l:List KC) (hB:B.Pairwise kcLt) (hBn:B.length≤1048576) (hn:l.length≤1048576):Spec Tryz.prog Tab 46 [.val (.one (.d (.list (List.map kcD l)))),.val (.one (.d (.fn 47 [[D.list (List.map kcD B)]])))] (bool (decide (∃ c,c∈l∧¬ c∈B))):=by
 refine Za Tryz.func46 rfl rfl Tryz.ntmps46 rfl ωr rfl rfl ?_
 refine use (Ztf B l hB hBn hn) rfl ?_
 refine Eq.trans (b:=bool (decide (fiZ (noP B) l≥0))) ?_ rfl
 rw [show decide (fiZ (noP B) l≥0)=decide (∃ c,c∈l∧¬ c∈B) from decide_eq_decide.2 ?_]
 rcases Zox (noP B) l with ⟨h,h2⟩|⟨i,x,h,h2,h3,_⟩
 ·rw [h];exact⟨fun g=>ω,fun ⟨c,h3,h4⟩=>by have:=h2 c h3;unfold noP at this;simp at this;exact absurd this h4⟩
 ·rw [h];exact⟨fun _=>⟨x,List.mem_of_getElem? h2,by unfold noP at h3;simpa using h3⟩,fun _=>ω⟩
theorem Zl4 (a b:List KC) (hn:a.length≤1048576) (B:List KC) (hB:B.Pairwise kcLt) (hBn:B.length≤1048576) (hsB:Spec Tryz.prog Tab 45 [.val (.one (.d (.list (List.map kcL [b]))))] (.val (.one (.d (.list (List.map kcD B)))))):Spec Tryz.prog Tab 17 [.val (.one (.d (.list (List.map kcD a)))),.val (.one (.d (.list (List.map kcD b))))] (bool (!decide (∃ c,c∈a∧¬ c∈B))):=by
 refine Za Tryz.func17 rfl rfl Tryz.ntmps17 rfl ωr rfl rfl ?_
 refine use hsB rfl ?_
 refine⟨[(0,.val (.one (.d (.list (List.map kcD a))))),(3,.val (.one (.ref [D.list (List.map kcD B)])))], [],?_,?_⟩
 ·constructor<;>(repeat' (first|exact rfl|exact True.intro|exact⟨_,_,rfl⟩|exact ωd|apply And.intro))
 refine use (ZqX B a hB hBn hn) rfl ?_
 refine Eq.trans (b:=bool (!(decide (∃ c,c∈a∧¬ c∈B)))) ?_ rfl
 rfl
theorem withinZ {a b:List KC} (hb:0< b.length) (hna:a.length≤1048576) (hnb:b.length≤1048576):Spec Tryz.prog Tab 17 [.val (.one (.d (.list (List.map kcD a)))),.val (.one (.d (.list (List.map kcD b))))] (bool (!decide (∃ c,c∈a∧¬ c∈b))):=by
 obtain⟨B,b1,b2,b3,_,b5⟩:=sortedZ [b] (by simpa using hb) (by simpa using hnb) (by simp)
 simp only [List.flatten_cons,List.flatten_nil,List.append_nil] at b2 b3
 have h:=Zl4 a b hna B b1 ω b5
 rwa [show decide (∃ c,c∈a∧¬ c∈B)=decide (∃ c,c∈a∧¬ c∈b) from decide_eq_decide.2 (by simp only [b2])] at h
end
