/- Joined by wip/bundle.py: XFnO XCelB XShr0 XCelC XCelD XCelE. -/
import Derived.Test.YtcogfmileelkeaaDoorWg
import Derived.Test.YtcogfmileelkeaaDoorGrpCa
import Derived.Test.YtcogfmileelkeaaDoorGrpN
set_option maxRecDepth 100000
namespace Go.Proofs.YtcogfmileelkeaaDoor.eng
open Go.RowKit num mem seg q held ratA ratB ratC ratD ratE vars ratF
theorem Zfo (own : List Nat) {f : FuncId} {fn : Func} {c : Code} {nt : Nat} (hf : Tryd.prog.funcs[f]? = some fn) (hb : fn.body = some c) (hn : (fn.name == "runtime.NumGoroutine") = false) (hnt : fn.ntmps = nt) {rs : List ResultVar} (hrs : fn.results = ⟨rs⟩)
  (hc:codeOk c=true) {args:List AV} {T n:Nat} {xs:List (List D)} (hargs:freeAVs args=true) (hlen:Nat.ble args.length nt=true)
  (h:sp (prmOwn Tryd.prog nt own) c (RetNew rs T n xs) (envArgs 0 args) noMem):SpecR Tryd.prog Tab f args T n xs:=
 ZfH (p:=prmOwn Tryd.prog nt own) hf hb hn hnt rfl rfl hrs ZeL (fun _ _ h hb=>h.below hb (Nat.le_refl _)) mixed hc hargs hlen h
end Go.Proofs.YtcogfmileelkeaaDoor.eng
namespace Go.Proofs.YtcogfmileelkeaaDoor.eng
open Go.RowKit num mem seg q held ratA ratB ratC ratD ratE vars ratF prf
section
variable {K : AV → Prop}
theorem ZkA:Tryd.prog.underlying 3=some (.int .i64):=by kernel_rfl
theorem Zbv {α:Type} {L:List (List α)} {i:Nat} {m:List α} (h:L[i]? =some m):(L.take (i+1)).flatten.length=(L.take i).flatten.length+m.length:=by
 rw [List.take_add_one,h,List.flatten_append,List.length_append];simp
theorem ZaH {α:Type} (L:List (List α)) (i:Nat):(L.take i).flatten.length≤L.flatten.length:=by
 have e:L.flatten=(L.take i).flatten++(L.drop i).flatten:=by rw [← List.flatten_append,List.take_append_drop]
 rw [e,List.length_append];omega
theorem Za1 {α β:Type} (g:α→β) {L:List (List α)} {i:Nat} {m:List α} (h:L[i]? =some m):List.map g (L.take (i+1)).flatten=List.map g (L.take i).flatten++List.map g m:=by
 rw [List.take_add_one,h,List.flatten_append,List.map_append];simp
theorem ZfN {R:KC→KC→Prop} {s:List KC} (h:s.Pairwise R) {i j:Nat} {a b:KC} (hij:i< j) (ha:s[i]? =some a) (hb:s[j]? =some b):R a b:=by
 obtain⟨h1,rfl⟩:=List.getElem?_eq_some_iff.1 ha
 obtain⟨h2,rfl⟩:=List.getElem?_eq_some_iff.1 hb
 exact List.pairwise_iff_getElem.1 h i j h1 h2 hij
theorem Zeq (l:List KC):∀ m,m≤l.length→∀ q,q∈keptZ l m↔q∈l.take m
 |0,_,q=>by simp [keptZ]
 |m+1,h,q=>by
  have hx:l[m]? =some (l[m]'(by omega)):=List.getElem?_eq_getElem (by omega)
  have ih:=Zeq l m (by omega) q
  by_cases hd:m=0∨l[m - 1]? ≠l[m]?
  ·rw [ZaP hx (by rw [← hx];exact hd),List.take_add_one,hx]
   simp only [List.mem_append,Option.toList_some,ih]
  ·have h0:0< m:=by omega
   have hs:l[m - 1]? =l[m]? :=Decidable.byContradiction fun e=>hd (.inr e)
   rw [ZaZ h0 hx (hs.trans hx),List.take_add_one,hx,List.mem_append,ih]
   refine⟨.inl,fun g=>g.elim id fun g=> ?_⟩
   obtain rfl:q=l[m]'(by omega):=by simpa using g
   have h2:(l.take m)[m - 1]? =some (l[m]'(by omega)):=by rw [List.getElem?_take_of_lt (by omega),hs,hx]
   exact List.mem_of_getElem? h2
theorem Zf1 {l:List KC} (hs:l.Pairwise fun x y=>¬ kcLt y x):∀ m,m≤l.length→(keptZ l m).Pairwise kcLt∧∀ q,q∈keptZ l m→∀ x,l[m - 1]? =some x→0< m→q=x∨kcLt q x
 |0,_=>⟨by simp [keptZ],fun q hq=>by simp [keptZ] at hq⟩
 |m+1,h=>by
  have hx:l[m]? =some (l[m]'(by omega)):=List.getElem?_eq_getElem (by omega)
  obtain⟨i1,i2⟩:=Zf1 hs m (by omega)
  by_cases hd:m=0∨l[m - 1]? ≠l[m]?
  ·rw [ZaP hx (by rw [← hx];exact hd)]
   have hlt:∀ q,q∈keptZ l m→kcLt q (l[m]'(by omega)):=by
    intro q hq
    rcases Nat.eq_zero_or_pos m with rfl|hm0
    ·simp [keptZ] at hq
    ·have hd:=hd.resolve_left (by omega)
     have hy:l[m - 1]? =some (l[m - 1]'(by omega)):=List.getElem?_eq_getElem (by omega)
     have hyx:kcLt (l[m - 1]'(by omega)) (l[m]'(by omega)):=by
      rcases ZgT (l[m - 1]'(by omega)) (l[m]'(by omega)) with g|g|g
      ·exact g
      ·exact absurd (by rw [hy,hx,g]) hd
      ·exact absurd g (ZfN hs (by omega) hy hx)
     rcases i2 q hq _ hy hm0 with rfl|g
     ·exact hyx
     ·exact Zar g hyx
   refine⟨List.pairwise_append.2 ⟨i1,List.pairwise_singleton ..,fun a ha b hb=> ?_⟩,fun q hq x h2 _=> ?_⟩
   ·rw [List.mem_singleton.1 hb];exact hlt a ha
   ·rw [Nat.add_sub_cancel,hx] at h2
    rw [← Option.some.inj h2]
    rcases List.mem_append.1 hq with g|g
    ·exact .inr (hlt q g)
    ·exact .inl (List.mem_singleton.1 g)
  ·have h0:0< m:=by omega
   have hs':l[m - 1]? =l[m]? :=Decidable.byContradiction fun e=>hd (.inr e)
   rw [ZaZ h0 hx (hs'.trans hx)]
   exact⟨i1,fun q hq x h2 _=>i2 q hq x (by rw [hs'];rwa [Nat.add_sub_cancel] at h2) h0⟩
theorem Zhb (n:Nat) (h0:0< n) (hn:n≤4194304):SpecR Tryd.prog Tab 43 [.val (.one (.d (.v (.slice none 0 0)))),int (n:Int)] 25 2 ([]):=by
 have hwn:IntKind.i64.wrap ((n:Int) - 0)=(n:Int):=by rw [Int.sub_zero];exact wrap64 _ (by omega) (by omega)
 refine Zk8 Tryd.func43 rfl rfl Tryd.ntmps43 rfl (by kernel_rfl) rfl rfl ?_
 refine⟨fun e1=> ?_,fun e1=> ?_⟩
 ·have f6:(n:Int)< 0:=of_decide_eq_true e1
  exfalso
  omega
 ·have f6:¬ ((n:Int)< 0):=of_decide_eq_false e1
  refine⟨fun e2=> ?_,fun e2=> ?_⟩
  ·have f16:IntKind.i64.wrap ((n:Int) - 0) >0:=of_decide_eq_true e2
   refine⟨_,⟨rfl,rfl⟩,?_⟩
   refine⟨⟨⟨_,ZkA⟩,by show 0< IntKind.i64.wrap ((n:Int) - 0);rw [hwn];omega,by show IntKind.i64.wrap ((n:Int) - 0)*16≤_;rw [hwn];omega,by show IntKind.i64.wrap ((n:Int) - 0)≤_;rw [hwn];omega⟩,?_⟩
   refine⟨⟨by first|omega|decide,by first|omega|(simp only [List.length_append,List.length_take,List.length_replicate,List.length_map];omega)|(simp;omega)|simp⟩,?_⟩
   exact rfl
  ·have f16:¬ (IntKind.i64.wrap ((n:Int) - 0) >0):=of_decide_eq_false e2
   exfalso
   rw [hwn] at f16;omega
theorem ZeJ (L:List (List KC)) (h0:0< L.flatten.length) (hfl:L.flatten.length≤4194304) (hn:L.length≤4194304):SpecR Tryd.prog Tab 32 [.val (.one (.d (.list (List.map kcL L))))] 25 2 (List.map kcD L.flatten):=by
 have hLl:(List.map kcL L).length=L.length:=List.length_map ..
 refine Zfo [24] Tryd.func32 rfl rfl Tryd.ntmps32 rfl (by kernel_rfl) rfl rfl ?_
 refine⟨Nat,fun i=> [(0,.val (.one (.d (.list (List.map kcL L))))),(3,int ((L.take i).flatten.length:Int)),(9,.val (.one (.d (.list (List.map kcL L))))),(10,int ((List.map kcL L).length:Int)),(11,int (i:Int))],
  fun i=> [],fun i=>i≤L.length,fun i=>L.length - i,0,?_,Nat.zero_le _,fun i hs=> ?_⟩
 ·constructor<;>(repeat' (first|exact rfl|exact True.intro|exact⟨_,_,rfl⟩|exact(by decide)|apply And.intro))
  all_goals first|exact congrArg (fun n:Int=>D.v (.int .i64 n)) (by omega)|exact congrArg (fun n:Int=>D.v (.int .i64 n)) (by rw [wrap64 _ (by omega) (by omega)];omega)|(simp;done)
 refine⟨fun e1=> ?_,fun e1=> ?_⟩
 ·have f12:(i:Int)< ((List.map kcL L).length:Int):=of_decide_eq_true e1
  refine ZI (l:=L) (i:=i) (by first|omega|exact Nat.mod_lt _ (by omega)) fun x13 hx13=> ?_
  have hmx13:(List.map kcD x13).length=x13.length:=List.length_map ..
  have hfx13:=Zbv hx13
  have hgx13:=ZaH L (i+1)
  refine k_ix i [D.list (List.map kcD x13)] (by first|rfl|omega|(rw [wrap64 _ (by omega) (by omega)];omega)|(rw [wrap64 _ (by omega) (by omega)];split<;>omega)) (ZH hx13) rfl ?_
  refine⟨fun e2=> ?_,fun e2=> ?_⟩
  ·have f20:IntKind.i64.wrap (((L.take i).flatten.length:Int)+((List.map kcD x13).length:Int))< 0:=of_decide_eq_true e2
   exfalso
   rw [wrap64 _ (by omega) (by omega)] at f20;omega
  ·have f20:¬ (IntKind.i64.wrap (((L.take i).flatten.length:Int)+((List.map kcD x13).length:Int))< 0):=of_decide_eq_false e2
   refine⟨i+1,by omega,by simp only;omega,?_⟩
   constructor<;>(repeat' (first|exact rfl|exact True.intro|apply And.intro))
   all_goals first
    |exact congrArg (fun n:Int=>D.v (.int .i64 n)) (by rw [wrap64 _ (by omega) (by omega)];omega)
    |exact congrArg (fun n:Int=>D.v (.int .i64 n)) (by rw [wrap64 _ (by omega) (by omega)];omega)
    |exact congrArg (fun n:Int=>D.v (.int .i64 n)) (by omega)
 ·have f12:¬ ((i:Int)< ((List.map kcL L).length:Int)):=of_decide_eq_false e1
  have hgr:=Zhb L.flatten.length h0 hfl
  have hLi:(L.take i).flatten.length=L.flatten.length:=by rw [show i=L.length by omega,List.take_length]
  rw [← hLi] at hgr
  refine useN hgr ?_
  refine⟨Nat,fun i=> [(6,.val (.one (.row 24 0))),(25,.val (.one (.d (.list (List.map kcL L))))),(26,int ((List.map kcL L).length:Int)),(27,int (i:Int))],
   fun i=> [(24,.row 25 2 0 (List.map kcD ((L.take i).flatten)) true)],fun i=>i≤L.length,fun i=>L.length - i,0,?_,Nat.zero_le _,fun i hs=> ?_⟩
  ·constructor<;>(repeat' (first|exact rfl|exact True.intro|exact⟨_,_,rfl⟩|exact(by decide)|apply And.intro))
   all_goals first|exact congrArg (fun n:Int=>D.v (.int .i64 n)) (by omega)|exact congrArg (fun n:Int=>D.v (.int .i64 n)) (by rw [wrap64 _ (by omega) (by omega)];omega)|(simp;done)
  have hT:(List.map kcD (L.take i).flatten).length=(L.take i).flatten.length:=List.length_map ..
  have hg0:=ZaH L i
  refine⟨fun e3=> ?_,fun e3=> ?_⟩
  ·have f28:(i:Int)< ((List.map kcL L).length:Int):=of_decide_eq_true e3
   refine ZI (l:=L) (i:=i) (by first|omega|exact Nat.mod_lt _ (by omega)) fun x29 hx29=> ?_
   have hmx29:(List.map kcD x29).length=x29.length:=List.length_map ..
   have hfx29:=Zbv hx29
   have hgx29:=ZaH L (i+1)
   refine k_ix i [D.list (List.map kcD x29)] (by first|rfl|omega|(rw [wrap64 _ (by omega) (by omega)];omega)|(rw [wrap64 _ (by omega) (by omega)];split<;>omega)) (ZH hx29) rfl ?_
   refine⟨⟨(Zb4 fun _=>rfl),(by show ((List.map kcD ((L.take i).flatten)).length+(List.map kcD x29).length)*16≤_;omega),(by show ((List.map kcD ((L.take i).flatten)).length+(List.map kcD x29).length)≤_;omega)⟩,?_⟩
   refine⟨i+1,by omega,by simp only;omega,?_⟩
   constructor<;>(repeat' (first|exact rfl|exact True.intro|apply And.intro))
   all_goals first
    |exact(Za1 kcD hx29).symm
    |exact Za1 kcD hx29
    |exact congrArg (fun n:Int=>D.v (.int .i64 n)) (by rw [wrap64 _ (by omega) (by omega)];omega)
    |exact congrArg (fun n:Int=>D.v (.int .i64 n)) (by omega)
  ·have f28:¬ ((i:Int)< ((List.map kcL L).length:Int)):=of_decide_eq_false e3
   exact congrArg (fun m=>Ob.row _ 2 _ (List.map kcD (List.flatten m)) true) (List.take_of_length_le (by omega))
end
end Go.Proofs.YtcogfmileelkeaaDoor.eng
namespace Go.Proofs.YtcogfmileelkeaaDoor.eng
open Go.RowKit num mem seg q held ratA ratB ratC ratD ratE vars ratF
section
variable {K : AV → Prop} {T : TypeId} {ox oy : Operand}
theorem bwz64 {m:Int} (h0:0≤m) (h1:m< 18446744073709551616):IntKind.u64.wrap m=m:=by
 unfold IntKind.wrap
 simp [IntKind.signed,IntKind.bits]
 omega
theorem ZiT (T:TypeId) (ox oy:Operand) (k:IntKind) (n r:Nat) (hr:r≤64) (w:World):(do eqGuard .shr T ox oy (.int .u64 (n:Int)) (.int k (r:Int));binOp .shr T (.int .u64 (n:Int)) (.int k (r:Int)):Sem Value).run Tryd.prog w= .ok (.int .u64 ((n / 2 ^ r:Nat):Int)) w:=by
 have hg:eqGuard .shr T ox oy (.int .u64 (n:Int)) (.int k (r:Int))=pure ():=rfl
 rw [hg,binOp_shr]
 unfold Op.shift
 rw [if_neg (by omega)]
 have hm:min (r:Int).toNat IntKind.u64.bits=r:=by rw [Int.toNat_natCast];exact Nat.min_eq_left hr
 have e1:(n:Int).fdiv (2 ^ r)=((n / 2 ^ r:Nat):Int):=by
  have:(2:Int) ^ r=((2 ^ r:Nat):Int):=by rw [Int.natCast_pow];rfl
  rw [this,Int.fdiv_eq_ediv_of_nonneg _ (Int.natCast_nonneg _)]
  exact(Int.natCast_ediv _ _).symm
 simp only [hm,e1]
 rfl
theorem Zk1 {k:IntKind} {x y:Int} (n r d:Nat) (hx:x=n) (hy:y=r) (hd:2 ^ r=d) (hr:r≤64) (k1:K (one (.int .u64 ((n / d:Nat):Int)))):AskB .shr T ox oy (.int .u64 x) (.int k y) K:=by
 subst hx hy hd
 exact⟨_,⟨_,rfl,rfl,ZiT T ox oy k n r hr⟩,k1⟩
end
end Go.Proofs.YtcogfmileelkeaaDoor.eng
namespace Go.Proofs.YtcogfmileelkeaaDoor.eng
open Go.RowKit num mem seg q held ratA ratB ratC ratD ratE vars ratF prf
section
variable {K : AV → Prop}
def bsZ (l:List KC) (c:KC):Nat:=(l.filter fun x=>decide (ordZ x c< 0)).length
theorem ZjU {l:List KC} {c:KC} {a:Nat} (ha:a≤l.length) (h1:∀ i x,i< a→l[i]? =some x→ordZ x c< 0) (h2:∀ i x,a≤i→l[i]? =some x→¬ ordZ x c< 0):bsZ l c=a:=by
 have e:l=l.take a++l.drop a:=(List.take_append_drop a l).symm
 unfold bsZ
 rw [e,List.filter_append,List.filter_eq_self.2 ?_,List.filter_eq_nil_iff.2 ?_,List.append_nil,List.length_take]
 ·omega
 ·intro x hx
  obtain⟨i,hi⟩:=List.getElem?_of_mem hx
  rw [List.getElem?_drop] at hi
  simpa using h2 (a+i) x (by omega) hi
 ·intro x hx
  obtain⟨i,hi⟩:=List.getElem?_of_mem hx
  have hia:i< a:=by
   rcases Nat.lt_or_ge i a with g|g
   ·exact g
   ·rw [List.getElem?_eq_none (by rw [List.length_take];omega)] at hi;simp at hi
  rw [List.getElem?_take_of_lt hia] at hi
  exact decide_eq_true (h1 i x hia hi)
theorem Zli {l:List KC} {c x:KC} {m:Nat} (hs:l.Pairwise kcLt) (hx:l[m]? =some x) (h:ordZ x c< 0):∀ i y,i< m+1→l[i]? =some y→ordZ y c< 0:=by
 intro i y hi hy
 by_cases e:i=m
 ·subst e;rw [hx] at hy;rw [← Option.some.inj hy];exact h
 ·exact ZN.2 (Zar (ZfN hs (show i< m by omega) hy hx) (ZN.1 h))
theorem ZkB {l:List KC} {c x:KC} {m:Nat} (hs:l.Pairwise kcLt) (hx:l[m]? =some x) (h:¬ ordZ x c< 0):∀ i y,m≤i→l[i]? =some y→¬ ordZ y c< 0:=by
 intro i y hi hy g
 by_cases e:i=m
 ·subst e;rw [hx] at hy;rw [← Option.some.inj hy] at g;exact h g
 ·exact h (ZN.2 (Zar (ZfN hs (show m< i by omega) hx hy) (ZN.1 g)))
theorem Zlh {l:List KC} {c x:KC} {a:Nat} (hs:l.Pairwise kcLt) (hx:l[a]? =some x) (h1:∀ i x,i< a→l[i]? =some x→ordZ x c< 0) (h2:∀ i x,a≤i→l[i]? =some x→¬ ordZ x c< 0):decide (c∈l)=(ordZ x c==0):=by
 rw [Bool.eq_iff_iff]
 simp only [decide_eq_true_eq,beq_iff_eq]
 constructor
 ·intro hc
  obtain⟨i,hi⟩:=List.getElem?_of_mem hc
  rcases Nat.lt_trichotomy i a with g|g|g
  ·have:=h1 i c g hi;rw [ZN] at this;exact absurd this Zbq
  ·subst g;rw [hx] at hi;rw [Option.some.inj hi];exact ZhI.2 rfl
  ·exact absurd (ZN.2 (ZfN hs g hx hi)) (h2 a x (Nat.le_refl _) hx)
 ·intro h
  rw [← ZhI.1 h];exact List.mem_of_getElem? hx
theorem Zlt {l:List KC} {c:KC} {a:Nat} (ha:l.length≤a) (h1:∀ i x,i< a→l[i]? =some x→ordZ x c< 0):decide (c∈l)=false:=by
 refine decide_eq_false fun hc=> ?_
 obtain⟨i,hi⟩:=List.getElem?_of_mem hc
 have hil:=(List.getElem?_eq_some_iff.1 hi).1
 have:=h1 i c (by omega) hi
 rw [ZN] at this;exact Zbq this
theorem ZdQ (l:List KC) (c:KC) (hs0:l.Pairwise kcLt) (hn:l.length≤4194304):Spec Tryd.prog Tab 36 [.val (.one (.d (.list (List.map kcD l)))),cell c.1 c.2,fv 21] (.tup [.one (.d (.v (.int .i64 ((bsZ l c:Int))))),.one (.d (.v (.bool (decide (c∈l)))))]):=by
 have hL:(List.map kcD l).length=l.length:=List.length_map ..
 refine Zn Tryd.func36 rfl rfl Tryd.ntmps36 rfl (by kernel_rfl) rfl rfl ?_
 refine⟨Nat×Nat,fun (a,b)=> [(0,.val (.one (.d (.list (List.map kcD l))))),(2,fv 21),(4,.val (.one (.ptr 4 0))),(8,int ((List.map kcD l).length:Int)),(9,int (a:Int)),(10,int (b:Int))],
  fun (a,b)=> [(4,.var 25 [.d (.v (.int .i64 (c.1))),.d (.v (.int .i64 (c.2)))])],fun (a,b)=>a≤b∧b≤l.length∧(∀ i x,i< a→l[i]? =some x→ordZ x c< 0)∧(∀ i x,b≤i→l[i]? =some x→¬ ordZ x c< 0),fun (a,b)=>b - a,(0,l.length),?_,⟨Nat.zero_le _,Nat.le_refl _,fun i x h=>by omega,fun i x h hx=>by have:=(List.getElem?_eq_some_iff.1 hx).1;omega⟩,fun s hs=> ?_⟩
 ·constructor<;>(repeat' (first|exact rfl|exact True.intro|exact⟨_,_,rfl⟩|exact(by decide)|apply And.intro))
  all_goals first|exact congrArg (fun n:Int=>D.v (.int .i64 n)) (by omega)|exact congrArg (fun n:Int=>D.v (.int .i64 n)) (by rw [wrap64 _ (by omega) (by omega)];omega)|(simp;done)
 obtain⟨a,b⟩:=s
 obtain⟨g1,g2,g3,g4⟩:=hs
 refine⟨fun e1=> ?_,fun e1=> ?_⟩
 ·have f17:(a:Int)< (b:Int):=of_decide_eq_true e1
  refine ZjL (k':= .u64) (by kernel_rfl) (by kernel_rfl) ((a+b:Nat):Int) (by rw [wrap64 _ (by omega) (by omega),bwz64 (by omega) (by omega)];omega) ?_
  refine Zk1 (a+b) 1 2 rfl rfl (by decide) (by decide) ?_
  refine ZjL (k':= .i64) (by kernel_rfl) (by kernel_rfl) (((a+b) / 2:Nat):Int) (by rw [wrap64 _ (by omega) (by omega)]) ?_
  refine ZI (l:=l) (i:=((a+b) / 2)) (by first|omega|exact Nat.mod_lt _ (by omega)) fun x27 hx27=> ?_
  refine k_ix ((a+b) / 2) [D.v (.int .i64 (x27.1)),D.v (.int .i64 (x27.2))] (by first|rfl|omega|(rw [wrap64 _ (by omega) (by omega)];omega)|(rw [wrap64 _ (by omega) (by omega)];split<;>omega)) (ZH hx27) rfl ?_
  refine use (ZaB x27 c) rfl ?_
  refine⟨by kernel_rfl,?_⟩
  refine⟨fun e2=> ?_,fun e2=> ?_⟩
  ·have f31:ordZ x27 c< 0:=of_decide_eq_true e2
   refine⟨((a+b) / 2+1,b),⟨by omega,by omega,Zli hs0 hx27 f31,g4⟩,by simp only;omega,?_⟩
   constructor<;>(repeat' (first|exact rfl|exact True.intro|apply And.intro))
   all_goals first
    |exact congrArg (fun n:Int=>D.v (.int .i64 n)) (by rw [wrap64 _ (by omega) (by omega)];omega)
    |exact congrArg (fun n:Int=>D.v (.int .i64 n)) (by omega)
  ·have f31:¬ (ordZ x27 c< 0):=of_decide_eq_false e2
   refine⟨(a,(a+b) / 2),⟨by omega,by omega,g3,ZkB hs0 hx27 f31⟩,by simp only;omega,?_⟩
   constructor<;>(repeat' (first|exact rfl|exact True.intro|apply And.intro))
   all_goals first
    |exact congrArg (fun n:Int=>D.v (.int .i64 n)) (by rw [wrap64 _ (by omega) (by omega)];omega)
    |exact congrArg (fun n:Int=>D.v (.int .i64 n)) (by omega)
 ·have f17:¬ ((a:Int)< (b:Int)):=of_decide_eq_false e1
  refine fork (fun e3=> ?_) (fun e3=> ?_)
  ·have f39:(a:Int)< ((List.map kcD l).length:Int):=of_decide_eq_true e3
   refine ZI (l:=l) (i:=a) (by first|omega|exact Nat.mod_lt _ (by omega)) fun x43 hx43=> ?_
   refine k_ix a [D.v (.int .i64 (x43.1)),D.v (.int .i64 (x43.2))] (by first|rfl|omega|(rw [wrap64 _ (by omega) (by omega)];omega)|(rw [wrap64 _ (by omega) (by omega)];split<;>omega)) (ZH hx43) rfl ?_
   refine use (ZaB x43 c) rfl ?_
   refine⟨by kernel_rfl,?_⟩
   refine Eq.trans (b:= .tup [.one (.d (.v (.int .i64 ((a:Int))))),.one (.d (.v (.bool (ordZ x43 c==0))))]) ?_ rfl
   obtain rfl:a=b:=by omega
   rw [ZjU g2 g3 g4]
   rw [Zlh hs0 hx43 g3 g4]
  ·have f39:¬ ((a:Int)< ((List.map kcD l).length:Int)):=of_decide_eq_false e3
   refine⟨by kernel_rfl,?_⟩
   refine Eq.trans (b:= .tup [.one (.d (.v (.int .i64 ((a:Int))))),.one (.d (.v (.bool (false))))]) ?_ rfl
   obtain rfl:a=b:=by omega
   rw [ZjU g2 g3 g4]
   rw [Zlt (by omega) g3]
theorem Zct (l:List KC) (c:KC) (hs0:l.Pairwise kcLt) (hn:l.length≤4194304):Spec Tryd.prog Tab 25 [.val (.one (.d (.list (List.map kcD l)))),cell c.1 c.2] (bool (decide (c∈l))):=by
 refine Zn Tryd.func25 rfl rfl Tryd.ntmps25 rfl (by kernel_rfl) rfl rfl ?_
 refine use (ZdQ l c (by assumption) (by assumption)) rfl ?_
 refine Eq.trans (b:=bool (decide (c∈l))) ?_ rfl
 rfl
end
end Go.Proofs.YtcogfmileelkeaaDoor.eng
namespace Go.Proofs.YtcogfmileelkeaaDoor.eng
open Go.RowKit num mem seg q held ratA ratB ratC ratD ratE vars ratF prf
section
variable {K : AV → Prop}
def fiZ (p:KC→Bool) (l:List KC):Int:=match l.findIdx? p with
 |some i=>(i:Int)
 |none=> -1
theorem Zgb {p:KC→Bool} {l:List KC} {i:Nat} {x:KC} (hx:l[i]? =some x) (h:p x=true) (h1:∀ (j:Nat) (y:KC),j< i→l[j]? =some y→p y=false):fiZ p l=(i:Int):=by
 have:l.findIdx? p=some i:=by
  rw [List.findIdx?_eq_some_iff_getElem]
  obtain⟨hi,rfl⟩:=List.getElem?_eq_some_iff.1 hx
  exact⟨hi,h,fun j hj=>by have:=h1 j _ hj (List.getElem?_eq_getElem (by omega));rw [this];decide⟩
 unfold fiZ;rw [this]
theorem Zga {p:KC→Bool} {l:List KC} (h:∀ (j:Nat) (y:KC),l[j]? =some y→p y=false):fiZ p l=-1:=by
 have:l.findIdx? p=none:=by
  rw [List.findIdx?_eq_none_iff]
  intro x hx
  obtain⟨j,hj⟩:=List.getElem?_of_mem hx
  rw [h j x hj]
 unfold fiZ;rw [this]
theorem Zat (p:KC→Bool) (l:List KC):(fiZ p l=-1∧∀ x,x∈l→p x=false)∨∃ (i:Nat) (x:KC),fiZ p l=(i:Int)∧l[i]? =some x∧p x=true∧∀ (j:Nat) (y:KC),j< i→l[j]? =some y→p y=false:=by
 unfold fiZ
 cases h:l.findIdx? p with
 |none=>exact .inl ⟨rfl,fun x hx=>by have:=List.findIdx?_eq_none_iff.1 h x hx;simpa using this⟩
 |some i=>
  obtain⟨hi,h1,h2⟩:=List.findIdx?_eq_some_iff_getElem.1 h
  exact .inr ⟨i,l[i],rfl,List.getElem?_eq_getElem hi,h1,fun j y hj hy=>by
   obtain⟨hj2,rfl⟩:=List.getElem?_eq_some_iff.1 hy
   have:=h2 j hj;simpa using this⟩
def dF (p:KC→Bool) (l:List KC) (m:Nat):List KC:=(l.take m).filter fun c=> !p c
def dY (p:KC→Bool) (l:List KC) (m:Nat):List KC:=dF p l m++l.drop (dF p l m).length
theorem Zlf (p:KC→Bool) (l:List KC) (m:Nat):(dF p l m).length≤m:=by
 have:=List.length_filter_le (fun c=> !p c) (l.take m);unfold dF;rw [List.length_take] at this;omega
theorem Zle (p:KC→Bool) (l:List KC) (m:Nat):(dF p l m).length≤l.length:=by
 have:=List.length_filter_le (fun c=> !p c) (l.take m);unfold dF;rw [List.length_take] at this;omega
theorem ZeB {p:KC→Bool} {l:List KC} {m:Nat} {x:KC} (hx:l[m]? =some x) (h:p x=false):dF p l (m+1)=dF p l m++ [x]:=by
 unfold dF;rw [List.take_add_one,hx,List.filter_append];simp [h]
theorem Zfp {p:KC→Bool} {l:List KC} {m:Nat} {x:KC} (hx:l[m]? =some x) (h:p x=true):dF p l (m+1)=dF p l m:=by
 unfold dF;rw [List.take_add_one,hx,List.filter_append];simp [h]
theorem Zdf {p:KC→Bool} {l:List KC}:∀ {m:Nat},m≤l.length→(∀ (j:Nat) (y:KC),j< m→l[j]? =some y→p y=false)→dF p l m=l.take m
 |0,_,_=>rfl
 |m+1,h,hh=>by
  have hx:l[m]? =some (l[m]'(by omega)):=List.getElem?_eq_getElem (by omega)
  rw [ZeB hx (hh m _ (by omega) hx),Zdf (by omega) fun j y h1 h2=>hh j y (by omega) h2,List.take_add_one,hx];rfl
theorem Zkv {p:KC→Bool} {l:List KC} {i:Nat} {x:KC} (hx:l[i]? =some x) (h:p x=true):∀ m,i< m→(dF p l m).length< m
 |0,h=>by omega
 |m+1,hm=>by
  by_cases e:i=m
  ·subst e;rw [Zfp hx h];have:=Zlf p l i;omega
  ·have ih:=Zkv hx h m (by omega)
   cases hy:l[m]? with
   |none=>unfold dF at ih ⊢;rw [List.take_add_one,hy];simp only [Option.toList_none,List.append_nil];omega
   |some y=>
    cases hp:p y with
    |true=>rw [Zfp hy hp];omega
    |false=>rw [ZeB hy hp,List.length_append];simp;omega
theorem Zgk (p:KC→Bool) (l:List KC) (m:Nat):(dY p l m).length=l.length:=by
 have:=Zle p l m
 simp only [dY,List.length_append,List.length_drop];omega
theorem Zld {p:KC→Bool} {l:List KC} {m i:Nat} (h:(dF p l m).length≤i):(dY p l m)[i]? =l[i]? :=by
 unfold dY
 rw [List.getElem?_append_right h,List.getElem?_drop]
 congr 1;omega
theorem Zio {p:KC→Bool} {l:List KC} {m:Nat} (hm:m≤l.length) (h:∀ (j:Nat) (y:KC),j< m→l[j]? =some y→p y=false):dY p l m=l:=by
 unfold dY
 rw [Zdf hm h,List.length_take,Nat.min_eq_left hm,List.take_append_drop]
theorem Zju {p:KC→Bool} {l:List KC} {m:Nat} {x:KC} (hx:l[m]? =some x) (h:p x=true):dY p l (m+1)=dY p l m:=by unfold dY;rw [Zfp hx h]
theorem ZjR {p:KC→Bool} {l:List KC} {m:Nat} {x:KC} (hx:l[m]? =some x) (h:p x=false):(dY p l m).set (dF p l m).length x=dY p l (m+1):=by
 have hk:=Zlf p l m
 have hm:m< l.length:=(List.getElem?_eq_some_iff.1 hx).1
 unfold dY
 rw [ZeB hx h,List.set_append_right _ _ (Nat.le_refl _),Nat.sub_self,List.length_append,List.length_singleton,List.append_assoc]
 congr 1
 obtain⟨y,r,e⟩:∃ y r,l.drop (dF p l m).length=y :: r:=by
  cases e:l.drop (dF p l m).length with
  |nil=>have:=congrArg List.length e;rw [List.length_drop] at this;simp at this;omega
  |cons y r=>exact⟨y,r,rfl⟩
 rw [e,List.set_cons_zero,← List.drop_drop,e];rfl
theorem Zbz (p:KC→Bool) (l:List KC):dF p l l.length=l.filter fun c=> !p c:=by unfold dF;rw [List.take_length]
def noP (B:List KC) (c:KC):Bool:= !decide (c∈B)
def inP (B:List KC) (c:KC):Bool:=decide (c∈B)
theorem ZfW (B:List KC) (c:KC) (hB:B.Pairwise kcLt) (hBn:B.length≤4194304):Spec Tryd.prog Tab 24 [cell c.1 c.2,.val (.one (.ref [D.list (List.map kcD B)]))] (bool (noP B c)):=by
 refine Zn Tryd.func24 rfl rfl Tryd.ntmps24 rfl (by kernel_rfl) rfl rfl ?_
 refine use (Zct B c hB hBn) rfl ?_
 refine Eq.trans (b:=bool (!(decide (c∈B)))) ?_ rfl
 rfl
theorem ZfX (B:List KC) (c:KC) (hB:B.Pairwise kcLt) (hBn:B.length≤4194304):Spec Tryd.prog Tab 26 [cell c.1 c.2,.val (.one (.ref [D.list (List.map kcD B)]))] (bool (inP B c)):=by
 refine Zn Tryd.func26 rfl rfl Tryd.ntmps26 rfl (by kernel_rfl) rfl rfl ?_
 refine use (Zct B c hB hBn) rfl ?_
 refine Eq.trans (b:=bool (decide (c∈B))) ?_ rfl
 rfl
theorem ZiH (B:List KC) (c:KC) (hB:B.Pairwise kcLt) (hBn:B.length≤4194304):Spec Tryd.prog Tab 28 [cell c.1 c.2,.val (.one (.ref [D.list (List.map kcD B)]))] (bool (noP B c)):=by
 refine Zn Tryd.func28 rfl rfl Tryd.ntmps28 rfl (by kernel_rfl) rfl rfl ?_
 refine use (Zct B c hB hBn) rfl ?_
 refine Eq.trans (b:=bool (!(decide (c∈B)))) ?_ rfl
 rfl
theorem Zkj (B l:List KC) (hB:B.Pairwise kcLt) (hBn:B.length≤4194304) (hn:l.length≤4194304):SpecL Tryd.prog Tab 35 [.val (.one (.row 1000 0)),.val (.one (.d (.fn 24 [[D.list (List.map kcD B)]])))] 25 2 (List.map kcD l) (int (fiZ (noP B) l)):=by
 have hL:(List.map kcD l).length=l.length:=List.length_map ..
 refine fn_L 0 [] Tryd.func35 rfl rfl Tryd.ntmps35 rfl (by kernel_rfl) rfl rfl rfl ?_
 refine⟨Nat,fun i=> [(0,.val (.one (.row 1000 0))),(1,.val (.one (.d (.fn 24 [[D.list (List.map kcD B)]])))),(7,int ((List.map kcD l).length:Int)),(8,int (i:Int))],
  fun i=> [(1000,.row 25 2 0 (List.map kcD l) true)],fun i=>i≤l.length∧∀ (j:Nat) (y:KC),j< i→l[j]? =some y→noP B y=false,fun i=>l.length - i,0,?_,⟨Nat.zero_le _,fun j y h=>by omega⟩,fun i hs=> ?_⟩
 ·constructor<;>(repeat' (first|exact rfl|exact True.intro|exact⟨_,_,rfl⟩|exact(by decide)|apply And.intro))
  all_goals first|exact congrArg (fun n:Int=>D.v (.int .i64 n)) (by omega)|exact congrArg (fun n:Int=>D.v (.int .i64 n)) (by rw [wrap64 _ (by omega) (by omega)];omega)|(simp;done)
 obtain⟨g1,g2⟩:=hs
 refine⟨fun e1=> ?_,fun e1=> ?_⟩
 ·have f9:(i:Int)< ((List.map kcD l).length:Int):=of_decide_eq_true e1
  refine k_at_own' i (by first|rfl|omega|(rw [wrap64 _ (by omega) (by omega)];omega)|(rw [wrap64 _ (by omega) (by omega)];split<;>omega)) (by first|omega|(simp only [List.length_set];omega)|(simp;omega)) ?_
  refine ZI (l:=l) (i:=i) (by first|omega|exact Nat.mod_lt _ (by omega)) fun x15 hx15=> ?_
  refine ZcQ [D.v (.int .i64 (x15.1)),D.v (.int .i64 (x15.2))] _ (ZH hx15) rfl rfl ?_
  refine use (ZfW B x15 hB hBn) rfl ?_
  refine⟨fun e2=> ?_,fun e2=> ?_⟩
  ·have f16:noP B x15=true:=e2
   refine⟨Eq.trans (b:=int (i:Int)) ?_ rfl,⟨_,rfl,rfl⟩⟩
   rw [Zgb hx15 f16 g2]
  ·have f16:¬ (noP B x15=true):=(Bool.eq_false_iff.1 e2)
   refine⟨i+1,⟨by omega,fun j y hj hy=>by
    by_cases e:j=i
    ·subst e;rw [hx15] at hy;rw [← Option.some.inj hy];exact Bool.eq_false_iff.2 f16
    ·exact g2 j y (by omega) hy⟩,by simp only;omega,?_⟩
   constructor<;>(repeat' (first|exact rfl|exact True.intro|apply And.intro))
   all_goals first
    |exact congrArg (fun n:Int=>D.v (.int .i64 n)) (by rw [wrap64 _ (by omega) (by omega)];omega)
    |exact congrArg (fun n:Int=>D.v (.int .i64 n)) (by omega)
 ·have f9:¬ ((i:Int)< ((List.map kcD l).length:Int)):=of_decide_eq_false e1
  refine⟨Eq.trans (b:=int (-1)) ?_ rfl,⟨_,rfl,rfl⟩⟩
  rw [Zga fun j y hy=>g2 j y (by have:=(List.getElem?_eq_some_iff.1 hy).1;omega) hy]
theorem Zkk (B l:List KC) (hB:B.Pairwise kcLt) (hBn:B.length≤4194304) (hn:l.length≤4194304):SpecL Tryd.prog Tab 35 [.val (.one (.row 1000 0)),.val (.one (.d (.fn 26 [[D.list (List.map kcD B)]])))] 25 2 (List.map kcD l) (int (fiZ (inP B) l)):=by
 have hL:(List.map kcD l).length=l.length:=List.length_map ..
 refine fn_L 0 [] Tryd.func35 rfl rfl Tryd.ntmps35 rfl (by kernel_rfl) rfl rfl rfl ?_
 refine⟨Nat,fun i=> [(0,.val (.one (.row 1000 0))),(1,.val (.one (.d (.fn 26 [[D.list (List.map kcD B)]])))),(7,int ((List.map kcD l).length:Int)),(8,int (i:Int))],
  fun i=> [(1000,.row 25 2 0 (List.map kcD l) true)],fun i=>i≤l.length∧∀ (j:Nat) (y:KC),j< i→l[j]? =some y→inP B y=false,fun i=>l.length - i,0,?_,⟨Nat.zero_le _,fun j y h=>by omega⟩,fun i hs=> ?_⟩
 ·constructor<;>(repeat' (first|exact rfl|exact True.intro|exact⟨_,_,rfl⟩|exact(by decide)|apply And.intro))
  all_goals first|exact congrArg (fun n:Int=>D.v (.int .i64 n)) (by omega)|exact congrArg (fun n:Int=>D.v (.int .i64 n)) (by rw [wrap64 _ (by omega) (by omega)];omega)|(simp;done)
 obtain⟨g1,g2⟩:=hs
 refine⟨fun e1=> ?_,fun e1=> ?_⟩
 ·have f9:(i:Int)< ((List.map kcD l).length:Int):=of_decide_eq_true e1
  refine k_at_own' i (by first|rfl|omega|(rw [wrap64 _ (by omega) (by omega)];omega)|(rw [wrap64 _ (by omega) (by omega)];split<;>omega)) (by first|omega|(simp only [List.length_set];omega)|(simp;omega)) ?_
  refine ZI (l:=l) (i:=i) (by first|omega|exact Nat.mod_lt _ (by omega)) fun x15 hx15=> ?_
  refine ZcQ [D.v (.int .i64 (x15.1)),D.v (.int .i64 (x15.2))] _ (ZH hx15) rfl rfl ?_
  refine use (ZfX B x15 hB hBn) rfl ?_
  refine⟨fun e2=> ?_,fun e2=> ?_⟩
  ·have f16:inP B x15=true:=e2
   refine⟨Eq.trans (b:=int (i:Int)) ?_ rfl,⟨_,rfl,rfl⟩⟩
   rw [Zgb hx15 f16 g2]
  ·have f16:¬ (inP B x15=true):=(Bool.eq_false_iff.1 e2)
   refine⟨i+1,⟨by omega,fun j y hj hy=>by
    by_cases e:j=i
    ·subst e;rw [hx15] at hy;rw [← Option.some.inj hy];exact Bool.eq_false_iff.2 f16
    ·exact g2 j y (by omega) hy⟩,by simp only;omega,?_⟩
   constructor<;>(repeat' (first|exact rfl|exact True.intro|apply And.intro))
   all_goals first
    |exact congrArg (fun n:Int=>D.v (.int .i64 n)) (by rw [wrap64 _ (by omega) (by omega)];omega)
    |exact congrArg (fun n:Int=>D.v (.int .i64 n)) (by omega)
 ·have f9:¬ ((i:Int)< ((List.map kcD l).length:Int)):=of_decide_eq_false e1
  refine⟨Eq.trans (b:=int (-1)) ?_ rfl,⟨_,rfl,rfl⟩⟩
  rw [Zga fun j y hy=>g2 j y (by have:=(List.getElem?_eq_some_iff.1 hy).1;omega) hy]
theorem Zki (B l:List KC) (hB:B.Pairwise kcLt) (hBn:B.length≤4194304) (hn:l.length≤4194304):Spec Tryd.prog Tab 35 [.val (.one (.d (.list (List.map kcD l)))),.val (.one (.d (.fn 28 [[D.list (List.map kcD B)]])))] (int (fiZ (noP B) l)):=by
 have hL:(List.map kcD l).length=l.length:=List.length_map ..
 refine Zn Tryd.func35 rfl rfl Tryd.ntmps35 rfl (by kernel_rfl) rfl rfl ?_
 refine⟨Nat,fun i=> [(0,.val (.one (.d (.list (List.map kcD l))))),(1,.val (.one (.d (.fn 28 [[D.list (List.map kcD B)]])))),(7,int ((List.map kcD l).length:Int)),(8,int (i:Int))],
  fun i=> [],fun i=>i≤l.length∧∀ (j:Nat) (y:KC),j< i→l[j]? =some y→noP B y=false,fun i=>l.length - i,0,?_,⟨Nat.zero_le _,fun j y h=>by omega⟩,fun i hs=> ?_⟩
 ·constructor<;>(repeat' (first|exact rfl|exact True.intro|exact⟨_,_,rfl⟩|exact(by decide)|apply And.intro))
  all_goals first|exact congrArg (fun n:Int=>D.v (.int .i64 n)) (by omega)|exact congrArg (fun n:Int=>D.v (.int .i64 n)) (by rw [wrap64 _ (by omega) (by omega)];omega)|(simp;done)
 obtain⟨g1,g2⟩:=hs
 refine⟨fun e1=> ?_,fun e1=> ?_⟩
 ·have f9:(i:Int)< ((List.map kcD l).length:Int):=of_decide_eq_true e1
  refine ZI (l:=l) (i:=i) (by first|omega|exact Nat.mod_lt _ (by omega)) fun x14 hx14=> ?_
  refine k_ix i [D.v (.int .i64 (x14.1)),D.v (.int .i64 (x14.2))] (by first|rfl|omega|(rw [wrap64 _ (by omega) (by omega)];omega)|(rw [wrap64 _ (by omega) (by omega)];split<;>omega)) (ZH hx14) rfl ?_
  refine use (ZiH B x14 hB hBn) rfl ?_
  refine⟨fun e2=> ?_,fun e2=> ?_⟩
  ·have f16:noP B x14=true:=e2
   refine Eq.trans (b:=int (i:Int)) ?_ rfl
   rw [Zgb hx14 f16 g2]
  ·have f16:¬ (noP B x14=true):=(Bool.eq_false_iff.1 e2)
   refine⟨i+1,⟨by omega,fun j y hj hy=>by
    by_cases e:j=i
    ·subst e;rw [hx14] at hy;rw [← Option.some.inj hy];exact Bool.eq_false_iff.2 f16
    ·exact g2 j y (by omega) hy⟩,by simp only;omega,?_⟩
   constructor<;>(repeat' (first|exact rfl|exact True.intro|apply And.intro))
   all_goals first
    |exact congrArg (fun n:Int=>D.v (.int .i64 n)) (by rw [wrap64 _ (by omega) (by omega)];omega)
    |exact congrArg (fun n:Int=>D.v (.int .i64 n)) (by omega)
 ·have f9:¬ ((i:Int)< ((List.map kcD l).length:Int)):=of_decide_eq_false e1
  refine Eq.trans (b:=int (-1)) ?_ rfl
  rw [Zga fun j y hy=>g2 j y (by have:=(List.getElem?_eq_some_iff.1 hy).1;omega) hy]
end
end Go.Proofs.YtcogfmileelkeaaDoor.eng
namespace Go.Proofs.YtcogfmileelkeaaDoor.eng
open Go.RowKit num mem seg q held ratA ratB ratC ratD ratE vars ratF prf
section
variable {K : AV → Prop}
set_option maxHeartbeats 4000000 in
theorem Zks (B l:List KC) (hB:B.Pairwise kcLt) (hBn:B.length≤4194304) (hn:l.length≤4194304):SpecT Tryd.prog Tab 23 [.val (.one (.row 1000 0)),.val (.one (.d (.fn 24 [[D.list (List.map kcD B)]])))] 25 2 (List.map kcD l) 25 2 (List.map kcD (l.filter fun c=> !(noP B) c)):=by
 have hL:(List.map kcD l).length=l.length:=List.length_map ..
 refine fn_T [100010] Tryd.func23 rfl rfl Tryd.ntmps23 rfl (by kernel_rfl) rfl rfl ?_
 refine⟨_,⟨rfl,Zkj B l hB hBn hn⟩,?_⟩
 refine⟨fun e1=> ?_,fun e1=> ?_⟩
 ·have f12:fiZ (noP B) l=-1:=Zix e1
  rw [← Zbz,Zdf (Nat.le_refl _) fun j y _ hy=> ?_,List.take_length]
  ·exact rfl
  ·exact((Zat (noP B) l).elim (fun h=>h.2 y (List.mem_of_getElem? hy)) (fun h=>by obtain⟨i,x,g,_⟩:=h;omega))
 ·have f12:¬ (fiZ (noP B) l=-1):=Ziy e1
  obtain⟨i0,x0,hf0,h1,h2,h3⟩:=(Zat (noP B) l).resolve_left fun h=>f12 h.1
  have hi0:=(List.getElem?_eq_some_iff.1 h1).1
  have he0:=Zdf (p:=(noP B)) (m:=i0) (by omega) h3
  have hct:=(Zju (p:=(noP B)) h1 h2).trans (Zio (p:=(noP B)) (m:=i0) (by omega) h3)
  have he1:(dF (noP B) l (i0+1)).length=i0:=by rw [Zfp h1 h2,he0,List.length_take];omega
  refine⟨Nat,fun m=> [(0,.val (.one (.row 1000 0))),(1,.val (.one (.d (.fn 24 [[D.list (List.map kcD B)]])))),(5,int ((dF (noP B) l m).length:Int)),(6,int (m:Int))],
   fun m=> [(1000,.row 25 2 0 (List.map kcD (dY (noP B) l m)) true)],fun m=>i0< m∧m≤l.length,fun m=>l.length - m,(i0+1),?_,⟨by omega,by omega⟩,fun m hs=> ?_⟩
  ·constructor<;>(repeat' (first|exact rfl|exact True.intro|exact⟨_,_,rfl⟩|exact(by decide)|apply And.intro))
   all_goals first
    |exact congrArg (fun n:Int=>D.v (.int .i64 n)) (by rw [he1];omega)
    |exact congrArg (List.map kcD) hct
    |exact congrArg (List.map kcD) hct.symm
    |(rw [hct];done)
    |exact congrArg (fun n:Int=>D.v (.int .i64 n)) (by rw [hf0,wrap64 _ (by omega) (by omega)];omega)
  obtain⟨m1,m2⟩:=hs
  have hkl:=Zkv (p:=(noP B)) h1 h2 m m1
  have hdl:(List.map kcD (dY (noP B) l m)).length=l.length:=by rw [List.length_map,Zgk]
  have hdl2:=Zgk (noP B) l m
  have cX:∀ (q:Nat) {x:KC},(dF (noP B) l m).length≤q→l[q]? =some x→(dY (noP B) l m)[q]? =some x:=fun q x h1 h2=>by rw [Zld h1];exact h2
  refine⟨fun e2=> ?_,fun e2=> ?_⟩
  ·have f19:(m:Int)< ((List.map kcD (dY (noP B) l m)).length:Int):=of_decide_eq_true e2
   refine k_at_own' m (by first|rfl|omega|(rw [wrap64 _ (by omega) (by omega)];omega)|(rw [wrap64 _ (by omega) (by omega)];split<;>omega)) (by first|omega|(simp only [List.length_set];omega)|(simp;omega)) ?_
   refine ZI (l:=l) (i:=m) (by first|omega|exact Nat.mod_lt _ (by omega)) fun x25 hx25=> ?_
   refine ZcQ [D.v (.int .i64 (x25.1)),D.v (.int .i64 (x25.2))] _ (ZH (cX _ (by omega) hx25)) rfl rfl ?_
   refine use (ZfW B x25 hB hBn) rfl ?_
   refine⟨fun e3=> ?_,fun e3=> ?_⟩
   ·have f29:¬ (noP B x25=true):=(Bool.eq_false_iff.1 (ZhN e3))
    refine k_at_own' ((((dF (noP B) l m).length:Int)).toNat) (by first|rfl|omega|(rw [wrap64 _ (by omega) (by omega)];omega)|(rw [wrap64 _ (by omega) (by omega)];split<;>omega)) (by first|omega|(simp only [List.length_set];omega)|(simp;omega)) ?_
    refine⟨by first|omega|(simp only [List.length_set];omega)|(simp;omega),?_⟩
    have hfx:(noP B) x25=false:=Bool.eq_false_iff.2 f29
    have hkk:=ZeB (p:=(noP B)) hx25 hfx
    have hcc:=ZjR (p:=(noP B)) hx25 hfx
    refine⟨m+1,⟨by omega,by omega⟩,by simp only;omega,?_⟩
    constructor<;>(repeat' (first|exact rfl|exact True.intro|apply And.intro))
    all_goals first
     |(rw [← hcc,List.map_set];rfl)
     |exact congrArg (fun n:Int=>D.v (.int .i64 n)) (by rw [wrap64 _ (by omega) (by omega),hkk,List.length_append];simp)
     |exact congrArg (fun n:Int=>D.v (.int .i64 n)) (by rw [wrap64 _ (by omega) (by omega)];omega)
     |exact congrArg (fun n:Int=>D.v (.int .i64 n)) (by omega)
   ·have f29:¬ (¬ (noP B x25=true)):=fun hh=>hh ((ZhO e3))
    have g29:(noP B) x25=true:=Classical.not_not.1 f29
    have hkk:=Zfp (p:=(noP B)) hx25 g29
    have hcc:=Zju (p:=(noP B)) hx25 g29
    refine⟨m+1,⟨by omega,by omega⟩,by simp only;omega,?_⟩
    constructor<;>(repeat' (first|exact rfl|exact True.intro|apply And.intro))
    all_goals first
     |(rw [hcc];done)
     |exact congrArg (fun n:Int=>D.v (.int .i64 n)) (by rw [hkk])
     |(rw [hkk];done)
     |exact congrArg (fun n:Int=>D.v (.int .i64 n)) (by rw [wrap64 _ (by omega) (by omega)];omega)
     |exact congrArg (fun n:Int=>D.v (.int .i64 n)) (by omega)
  ·have f19:¬ ((m:Int)< ((List.map kcD (dY (noP B) l m)).length:Int)):=of_decide_eq_false e2
   refine⟨_,⟨by first|omega|decide,by first|omega|(simp;omega)|simp,rfl⟩,?_⟩
   refine⟨⟨by first|omega|decide,by first|omega|(simp only [List.length_append,List.length_take,List.length_replicate,List.length_map];omega)|(simp;omega)|simp⟩,?_⟩
   obtain rfl:m=l.length:=by omega
   rw [← Zbz]
   exact congrArg (fun m=>Ob.row _ 2 _ m true) (by simp [dY])
set_option maxHeartbeats 4000000 in
theorem Zkt (B l:List KC) (hB:B.Pairwise kcLt) (hBn:B.length≤4194304) (hn:l.length≤4194304):SpecT Tryd.prog Tab 23 [.val (.one (.row 1000 0)),.val (.one (.d (.fn 26 [[D.list (List.map kcD B)]])))] 25 2 (List.map kcD l) 25 2 (List.map kcD (l.filter fun c=> !(inP B) c)):=by
 have hL:(List.map kcD l).length=l.length:=List.length_map ..
 refine fn_T [100010] Tryd.func23 rfl rfl Tryd.ntmps23 rfl (by kernel_rfl) rfl rfl ?_
 refine⟨_,⟨rfl,Zkk B l hB hBn hn⟩,?_⟩
 refine⟨fun e1=> ?_,fun e1=> ?_⟩
 ·have f12:fiZ (inP B) l=-1:=Zix e1
  rw [← Zbz,Zdf (Nat.le_refl _) fun j y _ hy=> ?_,List.take_length]
  ·exact rfl
  ·exact((Zat (inP B) l).elim (fun h=>h.2 y (List.mem_of_getElem? hy)) (fun h=>by obtain⟨i,x,g,_⟩:=h;omega))
 ·have f12:¬ (fiZ (inP B) l=-1):=Ziy e1
  obtain⟨i0,x0,hf0,h1,h2,h3⟩:=(Zat (inP B) l).resolve_left fun h=>f12 h.1
  have hi0:=(List.getElem?_eq_some_iff.1 h1).1
  have he0:=Zdf (p:=(inP B)) (m:=i0) (by omega) h3
  have hct:=(Zju (p:=(inP B)) h1 h2).trans (Zio (p:=(inP B)) (m:=i0) (by omega) h3)
  have he1:(dF (inP B) l (i0+1)).length=i0:=by rw [Zfp h1 h2,he0,List.length_take];omega
  refine⟨Nat,fun m=> [(0,.val (.one (.row 1000 0))),(1,.val (.one (.d (.fn 26 [[D.list (List.map kcD B)]])))),(5,int ((dF (inP B) l m).length:Int)),(6,int (m:Int))],
   fun m=> [(1000,.row 25 2 0 (List.map kcD (dY (inP B) l m)) true)],fun m=>i0< m∧m≤l.length,fun m=>l.length - m,(i0+1),?_,⟨by omega,by omega⟩,fun m hs=> ?_⟩
  ·constructor<;>(repeat' (first|exact rfl|exact True.intro|exact⟨_,_,rfl⟩|exact(by decide)|apply And.intro))
   all_goals first
    |exact congrArg (fun n:Int=>D.v (.int .i64 n)) (by rw [he1];omega)
    |exact congrArg (List.map kcD) hct
    |exact congrArg (List.map kcD) hct.symm
    |(rw [hct];done)
    |exact congrArg (fun n:Int=>D.v (.int .i64 n)) (by rw [hf0,wrap64 _ (by omega) (by omega)];omega)
  obtain⟨m1,m2⟩:=hs
  have hkl:=Zkv (p:=(inP B)) h1 h2 m m1
  have hdl:(List.map kcD (dY (inP B) l m)).length=l.length:=by rw [List.length_map,Zgk]
  have hdl2:=Zgk (inP B) l m
  have cX:∀ (q:Nat) {x:KC},(dF (inP B) l m).length≤q→l[q]? =some x→(dY (inP B) l m)[q]? =some x:=fun q x h1 h2=>by rw [Zld h1];exact h2
  refine⟨fun e2=> ?_,fun e2=> ?_⟩
  ·have f19:(m:Int)< ((List.map kcD (dY (inP B) l m)).length:Int):=of_decide_eq_true e2
   refine k_at_own' m (by first|rfl|omega|(rw [wrap64 _ (by omega) (by omega)];omega)|(rw [wrap64 _ (by omega) (by omega)];split<;>omega)) (by first|omega|(simp only [List.length_set];omega)|(simp;omega)) ?_
   refine ZI (l:=l) (i:=m) (by first|omega|exact Nat.mod_lt _ (by omega)) fun x25 hx25=> ?_
   refine ZcQ [D.v (.int .i64 (x25.1)),D.v (.int .i64 (x25.2))] _ (ZH (cX _ (by omega) hx25)) rfl rfl ?_
   refine use (ZfX B x25 hB hBn) rfl ?_
   refine⟨fun e3=> ?_,fun e3=> ?_⟩
   ·have f29:¬ (inP B x25=true):=(Bool.eq_false_iff.1 (ZhN e3))
    refine k_at_own' ((((dF (inP B) l m).length:Int)).toNat) (by first|rfl|omega|(rw [wrap64 _ (by omega) (by omega)];omega)|(rw [wrap64 _ (by omega) (by omega)];split<;>omega)) (by first|omega|(simp only [List.length_set];omega)|(simp;omega)) ?_
    refine⟨by first|omega|(simp only [List.length_set];omega)|(simp;omega),?_⟩
    have hfx:(inP B) x25=false:=Bool.eq_false_iff.2 f29
    have hkk:=ZeB (p:=(inP B)) hx25 hfx
    have hcc:=ZjR (p:=(inP B)) hx25 hfx
    refine⟨m+1,⟨by omega,by omega⟩,by simp only;omega,?_⟩
    constructor<;>(repeat' (first|exact rfl|exact True.intro|apply And.intro))
    all_goals first
     |(rw [← hcc,List.map_set];rfl)
     |exact congrArg (fun n:Int=>D.v (.int .i64 n)) (by rw [wrap64 _ (by omega) (by omega),hkk,List.length_append];simp)
     |exact congrArg (fun n:Int=>D.v (.int .i64 n)) (by rw [wrap64 _ (by omega) (by omega)];omega)
     |exact congrArg (fun n:Int=>D.v (.int .i64 n)) (by omega)
   ·have f29:¬ (¬ (inP B x25=true)):=fun hh=>hh ((ZhO e3))
    have g29:(inP B) x25=true:=Classical.not_not.1 f29
    have hkk:=Zfp (p:=(inP B)) hx25 g29
    have hcc:=Zju (p:=(inP B)) hx25 g29
    refine⟨m+1,⟨by omega,by omega⟩,by simp only;omega,?_⟩
    constructor<;>(repeat' (first|exact rfl|exact True.intro|apply And.intro))
    all_goals first
     |(rw [hcc];done)
     |exact congrArg (fun n:Int=>D.v (.int .i64 n)) (by rw [hkk])
     |(rw [hkk];done)
     |exact congrArg (fun n:Int=>D.v (.int .i64 n)) (by rw [wrap64 _ (by omega) (by omega)];omega)
     |exact congrArg (fun n:Int=>D.v (.int .i64 n)) (by omega)
  ·have f19:¬ ((m:Int)< ((List.map kcD (dY (inP B) l m)).length:Int)):=of_decide_eq_false e2
   refine⟨_,⟨by first|omega|decide,by first|omega|(simp;omega)|simp,rfl⟩,?_⟩
   refine⟨⟨by first|omega|decide,by first|omega|(simp only [List.length_append,List.length_take,List.length_replicate,List.length_map];omega)|(simp;omega)|simp⟩,?_⟩
   obtain rfl:m=l.length:=by omega
   rw [← Zbz]
   exact congrArg (fun m=>Ob.row _ 2 _ m true) (by simp [dY])
theorem Zjv (B l:List KC) (hB:B.Pairwise kcLt) (hBn:B.length≤4194304) (hn:l.length≤4194304):Spec Tryd.prog Tab 27 [.val (.one (.d (.list (List.map kcD l)))),.val (.one (.d (.fn 28 [[D.list (List.map kcD B)]])))] (bool (decide (∃ c,c∈l∧¬ c∈B))):=by
 refine Zn Tryd.func27 rfl rfl Tryd.ntmps27 rfl (by kernel_rfl) rfl rfl ?_
 refine use (Zki B l hB hBn hn) rfl ?_
 refine Eq.trans (b:=bool (decide (fiZ (noP B) l≥0))) ?_ rfl
 rw [show decide (fiZ (noP B) l≥0)=decide (∃ c,c∈l∧¬ c∈B) from decide_eq_decide.2 ?_]
 rcases Zat (noP B) l with ⟨h,h2⟩|⟨i,x,h,h2,h3,_⟩
 ·rw [h];exact⟨fun g=>by omega,fun ⟨c,h3,h4⟩=>by have:=h2 c h3;unfold noP at this;simp at this;exact absurd this h4⟩
 ·rw [h];exact⟨fun _=>⟨x,List.mem_of_getElem? h2,by unfold noP at h3;simpa using h3⟩,fun _=>by omega⟩
theorem Zkb (a b:List KC) (B:List KC) (hB:B.Pairwise kcLt) (hBn:B.length≤4194304) (hsB:Spec Tryd.prog Tab 22 [.val (.one (.d (.list (List.map kcL [b]))))] (.val (.one (.d (.list (List.map kcD B)))))) (A:List KC) (hAn:A.length≤4194304) (hsA:SpecR Tryd.prog Tab 22 [.val (.one (.d (.list (List.map kcL [a]))))] 25 2 (List.map kcD A)):Spec Tryd.prog Tab 15 [.val (.one (.d (.list (List.map kcD a)))),.val (.one (.d (.list (List.map kcD b))))] (.val (.one (.d (.list (List.map kcD (A.filter fun c=> !noP B c)))))):=by
 refine Zf4 [10,12] Tryd.func15 rfl rfl Tryd.ntmps15 rfl (by kernel_rfl) rfl rfl ?_
 refine use hsB rfl ?_
 refine⟨[(0,.val (.one (.d (.list (List.map kcD a))))),(3,.val (.one (.ref [D.list (List.map kcD B)])))], [],?_,?_⟩
 ·constructor<;>(repeat' (first|exact rfl|exact True.intro|exact⟨_,_,rfl⟩|exact(by decide)|apply And.intro))
 refine useN hsA ?_
 refine⟨_,_,_,Zks B A hB hBn hAn,?_⟩
 refine Eq.trans (b:= .val (.one (.d (.list (List.map kcD (A.filter fun c=> !noP B c)))))) ?_ rfl
 rfl
theorem Zja (a b:List KC) (B:List KC) (hB:B.Pairwise kcLt) (hBn:B.length≤4194304) (hsB:Spec Tryd.prog Tab 22 [.val (.one (.d (.list (List.map kcL [b]))))] (.val (.one (.d (.list (List.map kcD B)))))) (A:List KC) (hAn:A.length≤4194304) (hsA:SpecR Tryd.prog Tab 22 [.val (.one (.d (.list (List.map kcL [a]))))] 25 2 (List.map kcD A)):Spec Tryd.prog Tab 16 [.val (.one (.d (.list (List.map kcD a)))),.val (.one (.d (.list (List.map kcD b))))] (.val (.one (.d (.list (List.map kcD (A.filter fun c=> !inP B c)))))):=by
 refine Zf4 [10,12] Tryd.func16 rfl rfl Tryd.ntmps16 rfl (by kernel_rfl) rfl rfl ?_
 refine use hsB rfl ?_
 refine⟨[(0,.val (.one (.d (.list (List.map kcD a))))),(3,.val (.one (.ref [D.list (List.map kcD B)])))], [],?_,?_⟩
 ·constructor<;>(repeat' (first|exact rfl|exact True.intro|exact⟨_,_,rfl⟩|exact(by decide)|apply And.intro))
 refine useN hsA ?_
 refine⟨_,_,_,Zkt B A hB hBn hAn,?_⟩
 refine Eq.trans (b:= .val (.one (.d (.list (List.map kcD (A.filter fun c=> !inP B c)))))) ?_ rfl
 rfl
theorem Zhg (a b:List KC) (hn:a.length≤4194304) (B:List KC) (hB:B.Pairwise kcLt) (hBn:B.length≤4194304) (hsB:Spec Tryd.prog Tab 22 [.val (.one (.d (.list (List.map kcL [b]))))] (.val (.one (.d (.list (List.map kcD B)))))):Spec Tryd.prog Tab 17 [.val (.one (.d (.list (List.map kcD a)))),.val (.one (.d (.list (List.map kcD b))))] (bool (!decide (∃ c,c∈a∧¬ c∈B))):=by
 refine Zn Tryd.func17 rfl rfl Tryd.ntmps17 rfl (by kernel_rfl) rfl rfl ?_
 refine use hsB rfl ?_
 refine⟨[(0,.val (.one (.d (.list (List.map kcD a))))),(3,.val (.one (.ref [D.list (List.map kcD B)])))], [],?_,?_⟩
 ·constructor<;>(repeat' (first|exact rfl|exact True.intro|exact⟨_,_,rfl⟩|exact(by decide)|apply And.intro))
 refine use (Zjv B a hB hBn hn) rfl ?_
 refine Eq.trans (b:=bool (!(decide (∃ c,c∈a∧¬ c∈B)))) ?_ rfl
 rfl
theorem Zkf (a b M:List KC) (hsM:Spec Tryd.prog Tab 22 [.val (.one (.d (.list (List.map kcL [a,b]))))] (.val (.one (.d (.list (List.map kcD M)))))):Spec Tryd.prog Tab 14 [.val (.one (.d (.list (List.map kcD a)))),.val (.one (.d (.list (List.map kcD b))))] (.val (.one (.d (.list (List.map kcD M))))):=by
 refine Zn Tryd.func14 rfl rfl Tryd.ntmps14 rfl (by kernel_rfl) rfl rfl ?_
 refine use hsM rfl ?_
 refine Eq.trans (b:= .val (.one (.d (.list (List.map kcD M))))) ?_ rfl
 rfl
end
end Go.Proofs.YtcogfmileelkeaaDoor.eng
