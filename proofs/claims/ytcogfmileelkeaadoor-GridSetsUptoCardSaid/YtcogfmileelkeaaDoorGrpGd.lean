/- Joined by wip/bundle.py: XGrdB XGrdC XCcvA XLawGrd. -/
import Derived.Test.YtcogfmileelkeaaDoorGrpCe
import Derived.Test.YtcogfmileelkeaaDoorGrpMp
import Derived.Test.YtcogfmileelkeaaDoorGrpCa
import Derived.Test.YtcogfmileelkeaaDoorWg
import Derived.Test.YtcogfmileelkeaaDoorGrpGr
set_option maxRecDepth 100000
namespace Go.Proofs.YtcogfmileelkeaaDoor.eng
open Go.RowKit num mem seg q held ratA ratB ratC ratD ratE vars ratF prf mp
section
variable {K : AV → Prop}
theorem Zhc (n:Nat) (h0:n=0):Spec Tryd.prog Tab 43 [.val (.one (.d (.v (.slice none 0 0)))),int (n:Int)] ((.val (.one (.d (.v (.slice none 0 0)))))):=by
 have hwn:IntKind.i64.wrap ((n:Int) - 0)=(n:Int):=by rw [Int.sub_zero];exact wrap64 _ (by omega) (by omega)
 refine Zk7 [] Tryd.func43 rfl rfl Tryd.ntmps43 rfl (by kernel_rfl) rfl rfl ?_
 refine⟨fun e1=> ?_,fun e1=> ?_⟩
 ·have f6:(n:Int)< 0:=of_decide_eq_true e1
  exfalso
  omega
 ·have f6:¬ ((n:Int)< 0):=of_decide_eq_false e1
  refine⟨fun e2=> ?_,fun e2=> ?_⟩
  ·have f16:IntKind.i64.wrap ((n:Int) - 0) >0:=of_decide_eq_true e2
   exfalso
   rw [hwn] at f16;omega
  ·have f16:¬ (IntKind.i64.wrap ((n:Int) - 0) >0):=of_decide_eq_false e2
   exact trivial
theorem ZiG (L:List (List KC)) (h0:L.flatten.length=0) (hn:L.length≤4194304):SpecR Tryd.prog Tab 32 [.val (.one (.d (.list (List.map kcL L))))] 25 2 (List.map kcD L.flatten):=by
 have hLl:(List.map kcL L).length=L.length:=List.length_map ..
 refine Zfo [24] Tryd.func32 rfl rfl Tryd.ntmps32 rfl (by kernel_rfl) rfl rfl ?_
 refine⟨Nat,fun i=> [(0,.val (.one (.d (.list (List.map kcL L))))),(3,int ((L.take i).flatten.length:Int)),(9,.val (.one (.d (.list (List.map kcL L))))),(10,int ((List.map kcL L).length:Int)),(11,int (i:Int))],
  fun i=> [],fun i=>i≤L.length,fun i=>L.length - i,0,?_,Nat.zero_le _,fun i hs=> ?_⟩
 ·constructor<;>(repeat' (first|exact rfl|exact True.intro|exact⟨_,_,rfl⟩|exact(by decide)|apply And.intro))
  all_goals first|exact congrArg (fun n:Int=>D.v (.int .i64 n)) (by omega)|exact congrArg (fun n:Int=>D.v (.int .i64 n)) (by rw [wrap64 _ (by omega) (by omega)];omega)|(simp;done)
 refine⟨fun e1=> ?_,fun e1=> ?_⟩
 ·have f12:(i:Int)< ((List.map kcL L).length:Int):=of_decide_eq_true e1
  refine ZI (l:=L) (i:=i) (by first|omega|exact Nat.mod_lt _ (by omega)) fun x13 hx13=> ?_
  have hmx13:(List.map kcD x13).length=x13.length:=List.length_map ..
  have hfx13:=Zbv hx13
  have hgx13:=ZaH L (i+1)
  refine k_ix i [D.list (List.map kcD x13)] (by first|rfl|omega|(rw [wrap64 _ (by omega) (by omega)];omega)|(rw [wrap64 _ (by omega) (by omega)];split<;>omega)) (ZH hx13) rfl ?_
  refine⟨fun e2=> ?_,fun e2=> ?_⟩
  ·have f20:IntKind.i64.wrap (((L.take i).flatten.length:Int)+((List.map kcD x13).length:Int))< 0:=of_decide_eq_true e2
   exfalso
   rw [wrap64 _ (by omega) (by omega)] at f20;omega
  ·have f20:¬ (IntKind.i64.wrap (((L.take i).flatten.length:Int)+((List.map kcD x13).length:Int))< 0):=of_decide_eq_false e2
   refine⟨i+1,by omega,by simp only;omega,?_⟩
   constructor<;>(repeat' (first|exact rfl|exact True.intro|apply And.intro))
   all_goals first
    |exact congrArg (fun n:Int=>D.v (.int .i64 n)) (by rw [wrap64 _ (by omega) (by omega)];omega)
    |exact congrArg (fun n:Int=>D.v (.int .i64 n)) (by rw [wrap64 _ (by omega) (by omega)];omega)
    |exact congrArg (fun n:Int=>D.v (.int .i64 n)) (by omega)
 ·have f12:¬ ((i:Int)< ((List.map kcL L).length:Int)):=of_decide_eq_false e1
  have hLi:(L.take i).flatten.length=0:=by have:=ZaH L i;omega
  refine use (Zhc _ hLi) rfl ?_
  refine⟨Nat,fun i=> [(6,.val (.one (.row 33 0))),(25,.val (.one (.d (.list (List.map kcL L))))),(26,int ((List.map kcL L).length:Int)),(27,int (i:Int))],
   fun i=> [(33,.row 25 2 0 (List.map kcD ((L.take i).flatten)) true)],fun i=>i≤L.length,fun i=>L.length - i,0,?_,Nat.zero_le _,fun i hs=> ?_⟩
  ·constructor<;>(repeat' (first|exact rfl|exact True.intro|exact⟨_,_,rfl⟩|exact(by decide)|apply And.intro))
   all_goals first|exact congrArg (fun n:Int=>D.v (.int .i64 n)) (by omega)|exact congrArg (fun n:Int=>D.v (.int .i64 n)) (by rw [wrap64 _ (by omega) (by omega)];omega)|(simp;done)
  have hT:(List.map kcD (L.take i).flatten).length=(L.take i).flatten.length:=List.length_map ..
  have hg0:=ZaH L i
  refine⟨fun e3=> ?_,fun e3=> ?_⟩
  ·have f28:(i:Int)< ((List.map kcL L).length:Int):=of_decide_eq_true e3
   refine ZI (l:=L) (i:=i) (by first|omega|exact Nat.mod_lt _ (by omega)) fun x29 hx29=> ?_
   have hmx29:(List.map kcD x29).length=x29.length:=List.length_map ..
   have hfx29:=Zbv hx29
   have hgx29:=ZaH L (i+1)
   refine k_ix i [D.list (List.map kcD x29)] (by first|rfl|omega|(rw [wrap64 _ (by omega) (by omega)];omega)|(rw [wrap64 _ (by omega) (by omega)];split<;>omega)) (ZH hx29) rfl ?_
   refine⟨⟨(Zb4 fun _=>rfl),(by show ((List.map kcD ((L.take i).flatten)).length+(List.map kcD x29).length)*16≤_;omega),(by show ((List.map kcD ((L.take i).flatten)).length+(List.map kcD x29).length)≤_;omega)⟩,?_⟩
   refine⟨i+1,by omega,by simp only;omega,?_⟩
   constructor<;>(repeat' (first|exact rfl|exact True.intro|apply And.intro))
   all_goals first
    |exact(Za1 kcD hx29).symm
    |exact Za1 kcD hx29
    |exact congrArg (fun n:Int=>D.v (.int .i64 n)) (by rw [wrap64 _ (by omega) (by omega)];omega)
    |exact congrArg (fun n:Int=>D.v (.int .i64 n)) (by omega)
  ·have f28:¬ ((i:Int)< ((List.map kcL L).length:Int)):=of_decide_eq_false e3
   exact congrArg (fun m=>Ob.row _ 2 _ (List.map kcD (List.flatten m)) true) (List.take_of_length_le (by omega))
theorem ConcatY (L:List (List KC)) (hfl:L.flatten.length≤4194304) (hn:L.length≤4194304):SpecR Tryd.prog Tab 32 [.val (.one (.d (.list (List.map kcL L))))] 25 2 (List.map kcD L.flatten):=by
 by_cases h:L.flatten.length=0
 ·exact ZiG L h hn
 ·exact ZeJ L (by omega) hfl hn
theorem Zhr (L:List (List KC)) (hfl:L.flatten.length≤4194304) (hn:L.length≤4194304) (M:List KC) (hM:M.length≤4194304) (hS:SpecS Tryd.prog Tab 33 [.val (.one (.row 1000 0)),fv 21] 25 2 (L.flatten.map kcD) (.tup []) (M.map kcD)):SpecR Tryd.prog Tab 22 [.val (.one (.d (.list (List.map kcL L))))] 25 2 (List.map kcD (keptZ M M.length)):=by
 refine Zfo [5,500007,9] Tryd.func22 rfl rfl Tryd.ntmps22 rfl (by kernel_rfl) rfl rfl ?_
 refine useN (ConcatY L hfl hn) ?_
 refine⟨.tup [],List.map kcD M,⟨rfl,hS⟩,?_⟩
 refine⟨_,_,_,Zdg M hM,?_⟩
 exact rfl
theorem Zhs (L:List (List KC)) (hfl:L.flatten.length≤4194304) (hn:L.length≤4194304) (M:List KC) (hM:M.length≤4194304) (hS:SpecS Tryd.prog Tab 33 [.val (.one (.row 1000 0)),fv 21] 25 2 (L.flatten.map kcD) (.tup []) (M.map kcD)):Spec Tryd.prog Tab 22 [.val (.one (.d (.list (List.map kcL L))))] (.val (.one (.d (.list (List.map kcD (keptZ M M.length)))))):=by
 refine Zf4 [5,500007,9] Tryd.func22 rfl rfl Tryd.ntmps22 rfl (by kernel_rfl) rfl rfl ?_
 refine useN (ConcatY L hfl hn) ?_
 refine⟨.tup [],List.map kcD M,⟨rfl,hS⟩,?_⟩
 refine⟨_,_,_,Zdg M hM,?_⟩
 refine Eq.trans (b:= .val (.one (.d (.list (List.map kcD (keptZ M M.length)))))) ?_ rfl
 rfl
theorem sortedY (L:List (List KC)) (hfl:L.flatten.length≤4194304) (hn:L.length≤4194304):∃ M:List KC,M.Pairwise kcLt∧(∀ c,c∈M↔c∈L.flatten)∧M.length≤L.flatten.length∧
  SpecR Tryd.prog Tab 22 [.val (.one (.d (.list (List.map kcL L))))] 25 2 (List.map kcD M)∧Spec Tryd.prog Tab 22 [.val (.one (.d (.list (List.map kcL L))))] (.val (.one (.d (.list (List.map kcD M))))):=by
 obtain⟨M,h1,h2,h3⟩:=Zhl L.flatten hfl
 have hl:=h1.length_eq
 exact⟨keptZ M M.length,(Zf1 h2 M.length (Nat.le_refl _)).1,fun c=>by rw [Zeq M M.length (Nat.le_refl _),List.take_length];exact h1.mem_iff,by have:=Zb5 M M.length;omega,Zhr L hfl hn M (by omega) h3,Zhs L hfl hn M (by omega) h3⟩
theorem meetY {a b:List KC} (hna:a.length≤4194304) (hnb:b.length≤4194304):∃ R:List KC,R.Pairwise kcLt∧(∀ c,c∈R↔c∈a∧c∈b)∧R.length≤a.length∧Spec Tryd.prog Tab 15 [.val (.one (.d (.list (List.map kcD a)))),.val (.one (.d (.list (List.map kcD b))))] (.val (.one (.d (.list (List.map kcD R))))):=by
 obtain⟨A,a1,a2,a3,a4,_⟩:=sortedY [a] (by simpa using hna) (by simp)
 obtain⟨B,b1,b2,b3,_,b5⟩:=sortedY [b] (by simpa using hnb) (by simp)
 simp only [List.flatten_cons,List.flatten_nil,List.append_nil] at a2 a3 b2 b3
 refine⟨A.filter fun c=> !noP B c,a1.filter _,fun c=> ?_,Nat.le_trans (List.length_filter_le _ _) a3,Zkb a b B b1 (by omega) b5 A (by omega) a4⟩
 unfold noP;simp [a2,b2]
theorem minusY {a b:List KC} (hna:a.length≤4194304) (hnb:b.length≤4194304):∃ R:List KC,R.Pairwise kcLt∧(∀ c,c∈R↔c∈a∧¬ c∈b)∧R.length≤a.length∧Spec Tryd.prog Tab 16 [.val (.one (.d (.list (List.map kcD a)))),.val (.one (.d (.list (List.map kcD b))))] (.val (.one (.d (.list (List.map kcD R))))):=by
 obtain⟨A,a1,a2,a3,a4,_⟩:=sortedY [a] (by simpa using hna) (by simp)
 obtain⟨B,b1,b2,b3,_,b5⟩:=sortedY [b] (by simpa using hnb) (by simp)
 simp only [List.flatten_cons,List.flatten_nil,List.append_nil] at a2 a3 b2 b3
 refine⟨A.filter fun c=> !inP B c,a1.filter _,fun c=> ?_,Nat.le_trans (List.length_filter_le _ _) a3,Zja a b B b1 (by omega) b5 A (by omega) a4⟩
 unfold inP;simp [a2,b2]
theorem withinY {a b:List KC} (hna:a.length≤4194304) (hnb:b.length≤4194304):Spec Tryd.prog Tab 17 [.val (.one (.d (.list (List.map kcD a)))),.val (.one (.d (.list (List.map kcD b))))] (bool (!decide (∃ c,c∈a∧¬ c∈b))):=by
 obtain⟨B,b1,b2,b3,_,b5⟩:=sortedY [b] (by simpa using hnb) (by simp)
 simp only [List.flatten_cons,List.flatten_nil,List.append_nil] at b2 b3
 have h:=Zhg a b hna B b1 (by omega) b5
 rwa [show decide (∃ c,c∈a∧¬ c∈B)=decide (∃ c,c∈a∧¬ c∈b) from decide_eq_decide.2 (by simp only [b2])] at h
theorem joinY {a b:List KC} (hn:a.length+b.length≤4194304):∃ R:List KC,R.Pairwise kcLt∧(∀ c,c∈R↔c∈a∨c∈b)∧R.length≤a.length+b.length∧Spec Tryd.prog Tab 14 [.val (.one (.d (.list (List.map kcD a)))),.val (.one (.d (.list (List.map kcD b))))] (.val (.one (.d (.list (List.map kcD R))))):=by
 obtain⟨M,a1,a2,a3,_,a5⟩:=sortedY [a,b] (by simpa using hn) (by simp)
 simp only [List.flatten_cons,List.flatten_nil,List.append_nil,List.length_append,List.mem_append] at a2 a3
 exact⟨M,a1,a2,a3,Zkf a b M a5⟩
end
end Go.Proofs.YtcogfmileelkeaaDoor.eng
namespace Go.Proofs.YtcogfmileelkeaaDoor.eng
open Go.RowKit num mem seg q held ratA ratB ratC ratD ratE vars ratF prf natC natD natI
section
variable {K : AV → Prop}
instance (a b:KC):Decidable (kcLt a b):=by unfold kcLt;exact inferInstance
def inR (c:KC):Prop:=-64≤c.1∧c.1< 64∧-64≤c.2∧c.2< 64
instance (c:KC):Decidable (inR c):=by unfold inR;exact inferInstance
def chkAt (l:List KC) (i:Nat):Int:=match l[i]? with
 |none=>0
 |some c=>if inR c then (if i=0 then 0 else match l[i - 1]? with
  |none=>0
  |some p=>if kcLt p c then 0 else 9) else 17
def chkV (l:List KC):Int:=if l.length >400 then 2 else (((List.range l.length).find? fun i=>decide (chkAt l i≠0)).map (chkAt l)).getD 0
theorem ZeD {l:List KC} (h:l.length >400):chkV l=2:=if_pos h
theorem ZaJ {l:List KC} (h:¬ l.length >400) {i:Nat} (hi:i< l.length) (h0:∀ j,j< i→chkAt l j=0) (h1:chkAt l i≠0):chkV l=chkAt l i:=by
 unfold chkV
 rw [if_neg h]
 have:(List.range l.length).find? (fun i=>decide (chkAt l i≠0))=some i:=by
  rw [List.find?_range_eq_some]
  exact⟨decide_eq_true h1,List.mem_range.2 hi,fun j hj=>by rw [h0 j hj];rfl⟩
 rw [this];rfl
theorem ZjT {l:List KC} (h:¬ l.length >400) (h0:∀ j,j< l.length→chkAt l j=0):chkV l=0:=by
 unfold chkV
 rw [if_neg h]
 have:(List.range l.length).find? (fun i=>decide (chkAt l i≠0))=none:=by
  rw [List.find?_eq_none]
  intro j hj
  rw [h0 j (List.mem_range.1 hj)]
  decide
 rw [this];rfl
theorem Zau {l:List KC} {i:Nat} {c:KC} (hc:l[i]? =some c) (h:¬ inR c):chkAt l i=17:=by unfold chkAt;simp only [hc];rw [if_neg h]
theorem ZcF {l:List KC} {c:KC} (hc:l[0]? =some c) (h:inR c):chkAt l 0=0:=by unfold chkAt;simp only [hc];rw [if_pos h];rfl
theorem ZeE {l:List KC} {i:Nat} {c p:KC} (hc:l[i]? =some c) (h:inR c) (h0:0< i) (hp:l[i - 1]? =some p) (ho:¬ kcLt p c):chkAt l i=9:=by unfold chkAt;simp only [hc];rw [if_pos h,if_neg (by omega)];simp only [hp];rw [if_neg ho]
theorem Zgm {l:List KC} {i:Nat} {c p:KC} (hc:l[i]? =some c) (h:inR c) (h0:0< i) (hp:l[i - 1]? =some p) (ho:kcLt p c):chkAt l i=0:=by unfold chkAt;simp only [hc];rw [if_pos h,if_neg (by omega)];simp only [hp];rw [if_pos ho]
def LastI (l:List KC) (i:Nat) (u:KC):Prop:=(i=0∧u=(0,-1099511627776))∨(0< i∧l[i - 1]? =some u)
theorem ZdE {l:List KC} {i:Nat} {u c:KC} (h:LastI l i u) (hc:l[i]? =some c) (hr:inR c):(kcLt u c→chkAt l i=0)∧(¬ kcLt u c→chkAt l i=9):=by
 rcases h with ⟨rfl,rfl⟩|⟨h0,hu⟩
 ·refine⟨fun _=>ZcF hc hr,fun h=>absurd ?_ h⟩
  unfold kcLt inR at*;simp only;omega
 ·exact⟨Zgm hc hr h0 hu,ZeE hc hr h0 hu⟩
theorem okTo {l:List KC} {i:Nat} (h0:∀ j,j< i→chkAt l j=0) (h1:chkAt l i=0):∀ j,j< i+1→chkAt l j=0:=fun j hj=>by
 by_cases e:j=i
 ·subst e;exact h1
 ·exact h0 j (by omega)
set_option maxHeartbeats 4000000 in
theorem ZeK (l:List KC) (hn:l.length≤1048576):Spec Tryd.prog Tab 12 [.val (.one (.d (.list (List.map kcD l))))] (int (chkV l)):=by
 have hL:(List.map kcD l).length=l.length:=List.length_map ..
 refine Zn Tryd.func12 rfl rfl Tryd.ntmps12 rfl (by kernel_rfl) rfl rfl ?_
 refine⟨fun e1=> ?_,fun e1=> ?_⟩
 ·have f8:((List.map kcD l).length:Int) >400:=of_decide_eq_true e1
  refine Eq.trans (b:=int 2) ?_ rfl
  rw [ZeD (by omega)]
 ·have f8:¬ (((List.map kcD l).length:Int) >400):=of_decide_eq_false e1
  refine⟨Nat×KC,fun (i,u)=> [(3,.val (.one (.ptr 3 0))),(10,.val (.one (.d (.list (List.map kcD l))))),(11,int ((List.map kcD l).length:Int)),(12,int (i:Int))],
   fun (i,u)=> [(3,.var 25 [.d (.v (.int .i64 (u.1))),.d (.v (.int .i64 (u.2)))])],fun (i,u)=>i≤l.length∧(∀ j,j< i→chkAt l j=0)∧LastI l i u,fun (i,u)=>l.length - i,(0,(0,-1099511627776)),?_,⟨Nat.zero_le _,fun j h=>by omega,.inl ⟨rfl,rfl⟩⟩,fun s hs=> ?_⟩
  ·constructor<;>(repeat' (first|exact rfl|exact True.intro|exact⟨_,_,rfl⟩|exact(by decide)|apply And.intro))
   all_goals first|exact congrArg (fun n:Int=>D.v (.int .i64 n)) (by omega)|exact congrArg (fun n:Int=>D.v (.int .i64 n)) (by rw [wrap64 _ (by omega) (by omega)];omega)|(simp;done)
  obtain⟨i,u⟩:=s
  obtain⟨g1,g2,g3⟩:=hs
  refine⟨fun e2=> ?_,fun e2=> ?_⟩
  ·have f13:(i:Int)< ((List.map kcD l).length:Int):=of_decide_eq_true e2
   refine ZI (l:=l) (i:=i) (by first|omega|exact Nat.mod_lt _ (by omega)) fun x14 hx14=> ?_
   refine k_ix i [D.v (.int .i64 (x14.1)),D.v (.int .i64 (x14.2))] (by first|rfl|omega|(rw [wrap64 _ (by omega) (by omega)];omega)|(rw [wrap64 _ (by omega) (by omega)];split<;>omega)) (ZH hx14) rfl ?_
   refine fork (fun e3=> ?_) (fun e3=> ?_)
   ·have f19:x14.1< -64:=of_decide_eq_true e3
    refine⟨fun _=> ?_,fun e=>absurd e (by decide)⟩
    refine Eq.trans (b:=int 17) ?_ rfl
    have hil:=(List.getElem?_eq_some_iff.1 hx14).1
    have hf:¬ inR x14:=fun h=>by unfold inR at h;omega
    have e17:=Zau hx14 hf
    rw [ZaJ (by omega) hil g2 (by rw [e17];decide),e17]
   ·have f19:¬ (x14.1< -64):=of_decide_eq_false e3
    refine fork (fun e4=> ?_) (fun e4=> ?_)
    ·have f24:x14.1 >63:=of_decide_eq_true e4
     refine⟨fun _=> ?_,fun e=>absurd e (by decide)⟩
     refine Eq.trans (b:=int 17) ?_ rfl
     have hil:=(List.getElem?_eq_some_iff.1 hx14).1
     have hf:¬ inR x14:=fun h=>by unfold inR at h;omega
     have e17:=Zau hx14 hf
     rw [ZaJ (by omega) hil g2 (by rw [e17];decide),e17]
    ·have f24:¬ (x14.1 >63):=of_decide_eq_false e4
     refine fork (fun e5=> ?_) (fun e5=> ?_)
     ·have f29:x14.2< -64:=of_decide_eq_true e5
      refine⟨fun _=> ?_,fun e=>absurd e (by decide)⟩
      refine Eq.trans (b:=int 17) ?_ rfl
      have hil:=(List.getElem?_eq_some_iff.1 hx14).1
      have hf:¬ inR x14:=fun h=>by unfold inR at h;omega
      have e17:=Zau hx14 hf
      rw [ZaJ (by omega) hil g2 (by rw [e17];decide),e17]
     ·have f29:¬ (x14.2< -64):=of_decide_eq_false e5
      refine⟨fun e6=> ?_,fun e6=> ?_⟩
      ·have f33:x14.2 >63:=of_decide_eq_true e6
       refine Eq.trans (b:=int 17) ?_ rfl
       have hil:=(List.getElem?_eq_some_iff.1 hx14).1
       have hf:¬ inR x14:=fun h=>by unfold inR at h;omega
       have e17:=Zau hx14 hf
       rw [ZaJ (by omega) hil g2 (by rw [e17];decide),e17]
      ·have f33:¬ (x14.2 >63):=of_decide_eq_false e6
       refine fork (fun e7=> ?_) (fun e7=> ?_)
       ·have f39:x14.2< u.2:=of_decide_eq_true e7
        refine⟨fun _=> ?_,fun e=>absurd e (by decide)⟩
        refine Eq.trans (b:=int 9) ?_ rfl
        have hil:=(List.getElem?_eq_some_iff.1 hx14).1
        have hr:inR x14:=by unfold inR;omega
        have hk:¬ kcLt u x14:=by unfold kcLt;omega
        have e9:=(ZdE g3 hx14 hr).2 hk
        rw [ZaJ (by omega) hil g2 (by rw [e9];decide),e9]
       ·have f39:¬ (x14.2< u.2):=of_decide_eq_false e7
        refine fork (fun e8=> ?_) (fun e8=> ?_)
        ·have f45:x14.2=u.2:=Zix e8
         refine⟨fun e9=> ?_,fun e9=> ?_⟩
         ·have f52:x14.1≤u.1:=of_decide_eq_true e9
          refine Eq.trans (b:=int 9) ?_ rfl
          have hil:=(List.getElem?_eq_some_iff.1 hx14).1
          have hr:inR x14:=by unfold inR;omega
          have hk:¬ kcLt u x14:=by unfold kcLt;omega
          have e9:=(ZdE g3 hx14 hr).2 hk
          rw [ZaJ (by omega) hil g2 (by rw [e9];decide),e9]
         ·have f52:¬ (x14.1≤u.1):=of_decide_eq_false e9
          have hil:=(List.getElem?_eq_some_iff.1 hx14).1
          have hr:inR x14:=by unfold inR;omega
          have hk:kcLt u x14:=by unfold kcLt;omega
          refine⟨(i+1,x14),⟨by omega,okTo g2 ((ZdE g3 hx14 hr).1 hk),.inr ⟨Nat.succ_pos _,by rw [Nat.add_sub_cancel];exact hx14⟩⟩,by show _ - (i+1)< _ - i;omega,?_⟩
          constructor<;>(repeat' (first|exact rfl|exact True.intro|apply And.intro))
          all_goals first
           |exact congrArg (fun n:Int=>D.v (.int .i64 n)) (by rw [wrap64 _ (by omega) (by omega)];omega)
           |exact congrArg (fun n:Int=>D.v (.int .i64 n)) (by omega)
        ·have f45:¬ (x14.2=u.2):=Ziy e8
         refine⟨fun e=>absurd e (by decide),fun _=> ?_⟩
         have hil:=(List.getElem?_eq_some_iff.1 hx14).1
         have hr:inR x14:=by unfold inR;omega
         have hk:kcLt u x14:=by unfold kcLt;omega
         refine⟨(i+1,x14),⟨by omega,okTo g2 ((ZdE g3 hx14 hr).1 hk),.inr ⟨Nat.succ_pos _,by rw [Nat.add_sub_cancel];exact hx14⟩⟩,by show _ - (i+1)< _ - i;omega,?_⟩
         constructor<;>(repeat' (first|exact rfl|exact True.intro|apply And.intro))
         all_goals first
          |exact congrArg (fun n:Int=>D.v (.int .i64 n)) (by rw [wrap64 _ (by omega) (by omega)];omega)
          |exact congrArg (fun n:Int=>D.v (.int .i64 n)) (by omega)
  ·have f13:¬ ((i:Int)< ((List.map kcD l).length:Int)):=of_decide_eq_false e2
   refine Eq.trans (b:=int 0) ?_ rfl
   rw [ZjT (by omega) (fun j hj=>g2 j (by omega))]
set_option maxHeartbeats 4000000 in
theorem Zhd (l:List KC) (hn:l.length≤1048576):Spec Tryd.prog Tab 11 [.val (.one (.d (.list (List.map kcD l))))] (int (chkV l)):=by
 have hL:(List.map kcD l).length=l.length:=List.length_map ..
 refine Zn Tryd.func11 rfl rfl Tryd.ntmps11 rfl (by kernel_rfl) rfl rfl ?_
 refine⟨fun e1=> ?_,fun e1=> ?_⟩
 ·have f7:((List.map kcD l).length:Int) >400:=of_decide_eq_true e1
  refine Eq.trans (b:=int 2) ?_ rfl
  rw [ZeD (by omega)]
 ·have f7:¬ (((List.map kcD l).length:Int) >400):=of_decide_eq_false e1
  refine⟨Nat,fun i=> [(0,.val (.one (.d (.list (List.map kcD l))))),(8,.val (.one (.d (.list (List.map kcD l))))),(9,int ((List.map kcD l).length:Int)),(10,int (i:Int))],
   fun i=> [],fun i=>i≤l.length∧∀ j,j< i→chkAt l j=0,fun i=>l.length - i,0,?_,⟨Nat.zero_le _,fun j h=>by omega⟩,fun i hs=> ?_⟩
  ·constructor<;>(repeat' (first|exact rfl|exact True.intro|exact⟨_,_,rfl⟩|exact(by decide)|apply And.intro))
   all_goals first|exact congrArg (fun n:Int=>D.v (.int .i64 n)) (by omega)|exact congrArg (fun n:Int=>D.v (.int .i64 n)) (by rw [wrap64 _ (by omega) (by omega)];omega)|(simp;done)
  obtain⟨g1,g2⟩:=hs
  refine⟨fun e2=> ?_,fun e2=> ?_⟩
  ·have f11:(i:Int)< ((List.map kcD l).length:Int):=of_decide_eq_true e2
   refine ZI (l:=l) (i:=i) (by first|omega|exact Nat.mod_lt _ (by omega)) fun x13 hx13=> ?_
   refine k_ix i [D.v (.int .i64 (x13.1)),D.v (.int .i64 (x13.2))] (by first|rfl|omega|(rw [wrap64 _ (by omega) (by omega)];omega)|(rw [wrap64 _ (by omega) (by omega)];split<;>omega)) (ZH hx13) rfl ?_
   refine use (Zfe x13.1) rfl ?_
   refine fork (fun e3=> ?_) (fun e3=> ?_)
   ·have f19:¬ (-64≤x13.1∧x13.1< 64):=of_decide_eq_false (ZhN e3)
    refine⟨fun _=> ?_,fun e=>absurd e (by decide)⟩
    refine Eq.trans (b:=int 17) ?_ rfl
    have hil:=(List.getElem?_eq_some_iff.1 hx13).1
    have hf:¬ inR x13:=fun h=>by unfold inR at h;omega
    have e17:=Zau hx13 hf
    rw [ZaJ (by omega) hil g2 (by rw [e17];decide),e17]
   ·have f19:¬ (¬ (-64≤x13.1∧x13.1< 64)):=fun hh=>hh (of_decide_eq_true (ZhO e3))
    refine use (Zfe x13.2) rfl ?_
    refine⟨fun e4=> ?_,fun e4=> ?_⟩
    ·have f24:¬ (-64≤x13.2∧x13.2< 64):=of_decide_eq_false (ZhN e4)
     refine Eq.trans (b:=int 17) ?_ rfl
     have hil:=(List.getElem?_eq_some_iff.1 hx13).1
     have hf:¬ inR x13:=fun h=>by unfold inR at h;omega
     have e17:=Zau hx13 hf
     rw [ZaJ (by omega) hil g2 (by rw [e17];decide),e17]
    ·have f24:¬ (¬ (-64≤x13.2∧x13.2< 64)):=fun hh=>hh (of_decide_eq_true (ZhO e4))
     refine fork (fun e5=> ?_) (fun e5=> ?_)
     ·have f27:(i:Int) >0:=of_decide_eq_true e5
      refine ZI (l:=l) (i:=(i - 1)) (by first|omega|exact Nat.mod_lt _ (by omega)) fun x31 hx31=> ?_
      refine k_ix (i - 1) [D.v (.int .i64 (x31.1)),D.v (.int .i64 (x31.2))] (by first|rfl|omega|(rw [wrap64 _ (by omega) (by omega)];omega)|(rw [wrap64 _ (by omega) (by omega)];split<;>omega)) (ZH hx31) rfl ?_
      refine use (ZaB x31 x13) rfl ?_
      refine⟨by kernel_rfl,?_⟩
      refine⟨fun e6=> ?_,fun e6=> ?_⟩
      ·have f36:ordZ x31 x13≥0:=of_decide_eq_true e6
       refine Eq.trans (b:=int 9) ?_ rfl
       have hil:=(List.getElem?_eq_some_iff.1 hx13).1
       have hr:inR x13:=by unfold inR;omega
       have e9:=ZeE hx13 hr (by omega) (by simpa using hx31) (fun h=>by have:=ZN.2 h;omega)
       rw [ZaJ (by omega) hil g2 (by rw [e9];decide),e9]
      ·have f36:¬ (ordZ x31 x13≥0):=of_decide_eq_false e6
       have hil:=(List.getElem?_eq_some_iff.1 hx13).1
       have hr:inR x13:=by unfold inR;omega
       have c0:=Zgm hx13 hr (by omega) (by simpa using hx31) (ZN.1 (by omega))
       refine⟨i+1,⟨by omega,okTo g2 c0⟩,by simp only;omega,?_⟩
       constructor<;>(repeat' (first|exact rfl|exact True.intro|apply And.intro))
       all_goals first
        |exact congrArg (fun n:Int=>D.v (.int .i64 n)) (by rw [wrap64 _ (by omega) (by omega)];omega)
        |exact congrArg (fun n:Int=>D.v (.int .i64 n)) (by omega)
     ·have f27:¬ ((i:Int) >0):=of_decide_eq_false e5
      refine⟨by kernel_rfl,?_⟩
      refine⟨fun e=>absurd e (by decide),fun _=> ?_⟩
      have hil:=(List.getElem?_eq_some_iff.1 hx13).1
      have hr:inR x13:=by unfold inR;omega
      have h0:i=0:=by omega
      have c0:chkAt l i=0:=by rw [h0] at hx13 ⊢;exact ZcF hx13 hr
      refine⟨i+1,⟨by omega,okTo g2 c0⟩,by simp only;omega,?_⟩
      constructor<;>(repeat' (first|exact rfl|exact True.intro|apply And.intro))
      all_goals first
       |exact congrArg (fun n:Int=>D.v (.int .i64 n)) (by rw [wrap64 _ (by omega) (by omega)];omega)
       |exact congrArg (fun n:Int=>D.v (.int .i64 n)) (by omega)
  ·have f11:¬ ((i:Int)< ((List.map kcD l).length:Int)):=of_decide_eq_false e2
   refine Eq.trans (b:=int 0) ?_ rfl
   rw [ZjT (by omega) (fun j hj=>g2 j (by omega))]
end
end Go.Proofs.YtcogfmileelkeaaDoor.eng
namespace Go.Proofs.YtcogfmileelkeaaDoor.eng
open Go.RowKit num mem seg q held ratA ratB ratC ratD ratE vars ratF prf
section
variable {K : AV → Prop}
def isC (c x:KC):Bool:=decide (x=c)
theorem Zji (l:List KC) (c:KC) (hn:l.length≤1048576):Spec Tryd.prog Tab 19 [.val (.one (.d (.list (List.map kcD l)))),cell c.1 c.2] (int (fiZ (isC c) l)):=by
 have hL:(List.map kcD l).length=l.length:=List.length_map ..
 refine Zn Tryd.func19 rfl rfl Tryd.ntmps19 rfl (by kernel_rfl) rfl rfl ?_
 refine⟨Nat,fun i=> [(0,.val (.one (.d (.list (List.map kcD l))))),(3,.val (.one (.ptr 3 0))),(7,int ((List.map kcD l).length:Int)),(8,int (i:Int))],
  fun i=> [(3,.var 25 [.d (.v (.int .i64 (c.1))),.d (.v (.int .i64 (c.2)))])],fun i=>i≤l.length∧∀ (j:Nat) (y:KC),j< i→l[j]? =some y→isC c y=false,fun i=>l.length - i,0,?_,⟨Nat.zero_le _,fun j y h=>by omega⟩,fun i hs=> ?_⟩
 ·constructor<;>(repeat' (first|exact rfl|exact True.intro|exact⟨_,_,rfl⟩|exact(by decide)|apply And.intro))
  all_goals first|exact congrArg (fun n:Int=>D.v (.int .i64 n)) (by omega)|exact congrArg (fun n:Int=>D.v (.int .i64 n)) (by rw [wrap64 _ (by omega) (by omega)];omega)|(simp;done)
 obtain⟨g1,g2⟩:=hs
 refine⟨fun e1=> ?_,fun e1=> ?_⟩
 ·have f9:(i:Int)< ((List.map kcD l).length:Int):=of_decide_eq_true e1
  refine ZI (l:=l) (i:=i) (by first|omega|exact Nat.mod_lt _ (by omega)) fun x14 hx14=> ?_
  refine k_ix i [D.v (.int .i64 (x14.1)),D.v (.int .i64 (x14.2))] (by first|rfl|omega|(rw [wrap64 _ (by omega) (by omega)];omega)|(rw [wrap64 _ (by omega) (by omega)];split<;>omega)) (ZH hx14) rfl ?_
  refine ZbU (fun f16=> ?_) (fun f16=> ?_)
  ·refine⟨by kernel_rfl,?_⟩
   refine⟨fun _=> ?_,fun e=>absurd e (by decide)⟩
   refine Eq.trans (b:=int (i:Int)) ?_ rfl
   rw [Zgb hx14 (decide_eq_true (Prod.ext f16.1.symm f16.2.symm)) g2]
  ·refine⟨by kernel_rfl,?_⟩
   refine⟨fun e=>absurd e (by decide),fun _=> ?_⟩
   refine⟨i+1,⟨by omega,fun j y hj hy=>by
    by_cases e:j=i
    ·subst e;rw [hx14] at hy;rw [← Option.some.inj hy];exact decide_eq_false fun e=>f16 (by rw [← e];exact⟨rfl,rfl⟩)
    ·exact g2 j y (by omega) hy⟩,by simp only;omega,?_⟩
   constructor<;>(repeat' (first|exact rfl|exact True.intro|apply And.intro))
   all_goals first
    |exact congrArg (fun n:Int=>D.v (.int .i64 n)) (by rw [wrap64 _ (by omega) (by omega)];omega)
    |exact congrArg (fun n:Int=>D.v (.int .i64 n)) (by omega)
 ·have f9:¬ ((i:Int)< ((List.map kcD l).length:Int)):=of_decide_eq_false e1
  refine Eq.trans (b:=int (-1)) ?_ rfl
  rw [Zga fun j y hy=>g2 j y (by have:=(List.getElem?_eq_some_iff.1 hy).1;omega) hy]
theorem Zjw (l:List KC) (c:KC) (hn:l.length≤1048576):Spec Tryd.prog Tab 6 [.val (.one (.d (.list (List.map kcD l)))),cell c.1 c.2] (bool (decide (c∈l))):=by
 refine Zn Tryd.func6 rfl rfl Tryd.ntmps6 rfl (by kernel_rfl) rfl rfl ?_
 refine use (Zji l c hn) rfl ?_
 refine Eq.trans (b:=bool (decide (fiZ (isC c) l≥0))) ?_ rfl
 rw [show decide (fiZ (isC c) l≥0)=decide (c∈l) from decide_eq_decide.2 ?_]
 rcases Zat (isC c) l with ⟨h,h2⟩|⟨i,x,h,h2,h3,_⟩
 ·rw [h];exact⟨fun g=>by omega,fun h3=>by have:=h2 c h3;exact absurd rfl (of_decide_eq_false this)⟩
 ·rw [h];exact⟨fun _=>(of_decide_eq_true h3) ▸ List.mem_of_getElem? h2,fun _=>by omega⟩
section
variable {x y z : RV} 
end
end
end Go.Proofs.YtcogfmileelkeaaDoor.eng
namespace Go.Proofs.YtcogfmileelkeaaDoor.eng
open Go.RowKit num mem seg q held ratA ratB ratC ratD ratE vars ratF prf mp argopen natC natD natI
section
variable {K : AV → Prop}
theorem ZaQ (l:List KC) (c:KC) (hn:l.length≤1048576):Spec Tryd.prog Tab 5 [.val (.one (.d (.list (List.map kcD l)))),cell c.1 c.2] (bool (decide (c∈l))):=by
 refine Zn Tryd.func5 rfl rfl Tryd.ntmps5 rfl (by kernel_rfl) rfl rfl ?_
 refine use (Zjw l c (by assumption)) rfl ?_
 refine Eq.trans (b:=bool (decide (c∈l))) ?_ rfl
 rfl
theorem ZgW (c:KC):Spec Tryd.prog Tab 8 [cell c.1 c.2] (bool true):=by
 refine Zn Tryd.func8 rfl rfl Tryd.ntmps8 rfl (by kernel_rfl) rfl rfl ?_
 refine Eq.trans (b:=bool true) ?_ rfl
 rfl
theorem Zfm (a b:List KC) (ha:a.length≤1048576) (hb:b.length≤1048576) (c:KC):Spec Tryd.prog Tab 9 [cell c.1 c.2,.val (.one (.ref [D.v (.func (.func 5) #[] #[])])),.val (.one (.ref [D.list (List.map kcD a)])),.val (.one (.ref [D.list (List.map kcD b)]))] (bool (decide (c∈a)&&decide (c∈b))):=by
 refine Zn Tryd.func9 rfl rfl Tryd.ntmps9 rfl (by kernel_rfl) rfl rfl ?_
 refine use (ZaQ a c (by assumption)) rfl ?_
 refine fork (fun e1=> ?_) (fun e1=> ?_)
 ·have f10:c∈a:=of_decide_eq_true e1
  refine use (ZaQ b c (by assumption)) rfl ?_
  refine Eq.trans (b:=bool (decide (c∈b))) ?_ rfl
  rw [decide_eq_true f10]
  rfl
 ·have f10:¬ (c∈a):=of_decide_eq_false e1
  refine Eq.trans (b:=bool false) ?_ rfl
  rw [decide_eq_false f10]
  rfl
theorem Zfl (a b:List KC) (ha:a.length≤1048576) (hb:b.length≤1048576) (c:KC):Spec Tryd.prog Tab 10 [cell c.1 c.2,.val (.one (.ref [D.v (.func (.func 5) #[] #[])])),.val (.one (.ref [D.list (List.map kcD a)])),.val (.one (.ref [D.list (List.map kcD b)]))] (bool (decide (c∈a)&& !decide (c∈b))):=by
 refine Zn Tryd.func10 rfl rfl Tryd.ntmps10 rfl (by kernel_rfl) rfl rfl ?_
 refine use (ZaQ a c (by assumption)) rfl ?_
 refine fork (fun e1=> ?_) (fun e1=> ?_)
 ·have f10:c∈a:=of_decide_eq_true e1
  refine use (ZaQ b c (by assumption)) rfl ?_
  refine Eq.trans (b:=bool (!(decide (c∈b)))) ?_ rfl
  rw [decide_eq_true f10]
  rfl
 ·have f10:¬ (c∈a):=of_decide_eq_false e1
  refine Eq.trans (b:=bool false) ?_ rfl
  rw [decide_eq_false f10]
  rfl
theorem ZiO {f g:FuncId} {x y r:AV} (h:Spec Tryd.prog Tab f [x,y,.val (.one (.d (.fn g [])))] r):Spec Tryd.prog Tab f [x,y,fv g] r:=by
 refine⟨h.1,fun w I vs hG hI hr=>h.2 w I vs hG hI ?_⟩
 match vs,hr with
 | [],hr=>exact absurd hr.1 (by simp)
 | [_],hr=>exact absurd hr.1 (by simp)
 | [_,_],hr=>exact absurd hr.1 (by simp)
 |_ :: _ :: _ :: _ :: _,hr=>exact absurd hr.1 (by simp)
 | [u,v,t],hr=>
  obtain⟨r1,r2⟩:=hr.of_cons
  obtain⟨r3,r4⟩:=r2.of_cons
  obtain⟨r5,_⟩:=r4.of_cons
  refine((Rel2.nil.cons ?_).cons r3).cons r1
  have e:t= .func (.func g) #[] #[]:=by
   have h':Den w I t (.v (.func (.func g) #[] #[])):=r5
   cases h';rfl
  subst e
  exact Den.fn g [] (fun _=>0) (fun _=>0) (fun _ _=>undef) (fun i hi=>by simp at hi) (fun i j r hr=>by simp at hr) (fun i j r d hr=>by simp at hr)
def wI (b:List KC) (l:List KC):Bool:=l.all fun c=>decide (c∈b)
theorem ZkF {a b:List KC} {i:Nat} {x:KC} (hx:a[i]? =some x) (h:wI b (a.take i)=true):wI b (a.take (i+1))=decide (x∈b):=by
 unfold wI at*;rw [List.take_add_one,hx,List.all_append,h];simp
theorem Zlm {a b:List KC} {i:Nat} {x:KC} (hx:a[i]? =some x) (h:¬ wI b (a.take i)=true):wI b (a.take (i+1))=false:=by
 unfold wI at*;rw [List.take_add_one,hx,List.all_append,Bool.eq_false_iff.2 h];rfl
theorem ZkG (a b:List KC):(!decide (∃ c,c∈a∧¬ c∈b))=wI b a:=by
 unfold wI
 rw [Bool.eq_iff_iff]
 simp
set_option maxHeartbeats 4000000 in
theorem ZdH (a b:List KC) (ha:a.length≤1048576) (hb:b.length≤1048576):Spec Tryd.prog Tab 3 [.val (.one (.d (.list (List.map kcD a)))),.val (.one (.d (.list (List.map kcD b))))] (bool true):=by
 have hal:(List.map kcD a).length=a.length:=List.length_map ..
 obtain⟨J,j1,j2,j3,j4⟩:=joinY (a:=a) (b:=b) (by omega)
 obtain⟨M,m1,m2,m3,m4⟩:=meetY (a:=a) (b:=b) (by omega) (by omega)
 obtain⟨U,u1,u2,u3,u4⟩:=minusY (a:=a) (b:=b) (by omega) (by omega)
 refine Zn Tryd.func3 rfl rfl Tryd.ntmps3 rfl (by kernel_rfl) rfl rfl ?_
 refine use ZcR rfl ?_
 refine⟨fun e=>absurd e (by decide),fun _=> ?_⟩
 refine⟨Nat,fun i=> [(2,.val (.one (.ptr 2 0))),(3,.val (.one (.ptr 3 0))),(5,.val (.one (.ptr 5 0))),(6,bool (wI b (a.take i))),(14,.val (.one (.d (.list (List.map kcD a))))),(15,int ((List.map kcD a).length:Int)),(16,int (i:Int))],
  fun i=> [(2,.var 22 [.d (.list (List.map kcD a))]),(3,.var 22 [.d (.list (List.map kcD b))]),(5,.var 26 [.d (.v (.func (.func 5) #[] #[]))])],fun i=>i≤a.length,fun i=>a.length - i,0,?_,Nat.zero_le _,fun i hs=> ?_⟩
 ·constructor<;>(repeat' (first|exact rfl|exact True.intro|exact⟨_,_,rfl⟩|exact(by decide)|apply And.intro))
  all_goals first|exact congrArg (fun n:Int=>D.v (.int .i64 n)) (by omega)|exact congrArg (fun n:Int=>D.v (.int .i64 n)) (by rw [wrap64 _ (by omega) (by omega)];omega)|(simp;done)
 refine⟨fun e1=> ?_,fun e1=> ?_⟩
 ·have f17:(i:Int)< ((List.map kcD a).length:Int):=of_decide_eq_true e1
  refine ZI (l:=a) (i:=i) (by first|omega|exact Nat.mod_lt _ (by omega)) fun x18 hx18=> ?_
  refine k_ix i [D.v (.int .i64 (x18.1)),D.v (.int .i64 (x18.2))] (by first|rfl|omega|(rw [wrap64 _ (by omega) (by omega)];omega)|(rw [wrap64 _ (by omega) (by omega)];split<;>omega)) (ZH hx18) rfl ?_
  refine fork (fun e2=> ?_) (fun e2=> ?_)
  ·have f21:wI b (a.take i)=true:=e2
   refine use (ZaQ b x18 (by assumption)) rfl ?_
   refine⟨i+1,by omega,by simp only;omega,?_⟩
   constructor<;>(repeat' (first|exact rfl|exact True.intro|apply And.intro))
   all_goals first
    |exact congrArg (fun t:Bool=>D.v (.bool t)) (ZkF hx18 f21)
    |exact congrArg (fun n:Int=>D.v (.int .i64 n)) (by rw [wrap64 _ (by omega) (by omega)];omega)
    |exact congrArg (fun n:Int=>D.v (.int .i64 n)) (by omega)
  ·have f21:¬ (wI b (a.take i)=true):=fun hh=>Bool.false_ne_true (e2.symm.trans hh)
   refine⟨i+1,by omega,by simp only;omega,?_⟩
   constructor<;>(repeat' (first|exact rfl|exact True.intro|apply And.intro))
   all_goals first
    |exact congrArg (fun t:Bool=>D.v (.bool t)) (Zlm hx18 f21)
    |exact congrArg (fun n:Int=>D.v (.int .i64 n)) (by rw [wrap64 _ (by omega) (by omega)];omega)
    |exact congrArg (fun n:Int=>D.v (.int .i64 n)) (by omega)
 ·have f17:¬ ((i:Int)< ((List.map kcD a).length:Int)):=of_decide_eq_false e1
  refine use (ZiO (Zbi a b _ [] (fun _=>true) (fun c=>ZgW c) J j1 (fun c=>by rw [j2,List.mem_append];simp) ha hb (by omega))) rfl ?_
  refine⟨[(2,.val (.one (.ref [D.list (List.map kcD a)]))),(3,.val (.one (.ref [D.list (List.map kcD b)]))),(5,.val (.one (.ref [D.v (.func (.func 5) #[] #[])]))),(6,bool (wI b (a.take i))),(9,.val (.one (.d (.list (List.map kcD J)))))], [],?_,?_⟩
  ·constructor<;>(repeat' (first|exact rfl|exact True.intro|exact⟨_,_,rfl⟩|exact(by decide)|apply And.intro))
  refine use (Zbi a b _ _ (fun c=>decide (c∈a)&&decide (c∈b)) (fun c=>Zfm a b ha hb c) M m1 (fun c=>by rw [m2,List.mem_append];simp;exact fun h _=> .inl h) ha hb (by omega)) rfl ?_
  refine⟨[(2,.val (.one (.ref [D.list (List.map kcD a)]))),(3,.val (.one (.ref [D.list (List.map kcD b)]))),(5,.val (.one (.ref [D.v (.func (.func 5) #[] #[])]))),(6,bool (wI b (a.take i))),(9,.val (.one (.d (.list (List.map kcD J))))),(10,.val (.one (.d (.list (List.map kcD M)))))], [],?_,?_⟩
  ·constructor<;>(repeat' (first|exact rfl|exact True.intro|exact⟨_,_,rfl⟩|exact(by decide)|apply And.intro))
  refine use (Zbi a b _ _ (fun c=>decide (c∈a)&& !decide (c∈b)) (fun c=>Zfl a b ha hb c) U u1 (fun c=>by rw [u2,List.mem_append];simp;exact fun h _=> .inl h) ha hb (by omega)) rfl ?_
  refine use (Zhd a ha) rfl ?_
  refine use (ZeK a ha) rfl ?_
  refine fork (fun e3=> ?_) (fun e3=> ?_)
  ·have f44:chkV a=chkV a:=Zix e3
   refine use j4 rfl ?_
   refine use (Zbh J (by omega)) rfl ?_
   refine use m4 rfl ?_
   refine use (Zbh M (by omega)) rfl ?_
   refine use u4 rfl ?_
   refine use (Zbh U (by omega)) rfl ?_
   refine use (withinY (by omega) (by omega)) rfl ?_
   refine Zet (fun _=> ?_) (fun hh=>absurd (show (!decide (∃ c,c∈a∧¬ c∈b))=wI b (a.take i) by rw [List.take_of_length_le (by omega)];exact ZkG a b) hh)
   refine⟨by kernel_rfl,?_⟩
   refine Eq.trans (b:=bool true) ?_ rfl
   rfl
  ·have f44:¬ (chkV a=chkV a):=Ziy e3
   exfalso
   exact f44 rfl
theorem gridSets_walk (v0:Value) (a:List KC) (v1:Value) (b:List KC) (N:Nat) (w:World) (_:1≤N) (_:N≤1048576)
  (d0:Den w (fun b=>b< w.heap.size) v0 (.list (a.map kcD))) (m0:cellsZ a N) (d1:Den w (fun b=>b< w.heap.size) v1 (.list (b.map kcD))) (m1:cellsZ b N) (hT:Tab w):
  Calls Tryd.prog 3 #[v0,v1] w fun e w'=>e= .returned (.bool true)∧Below w.heap.size w w':=
 ZcT (I:=fun b=>b< w.heap.size) (ZdH a b (Nat.le_trans m0.1 (by omega)) (Nat.le_trans m1.1 (by omega))) rfl hT (fun _ h=>h)
  ((Rel2.nil.cons (show DenAV _ _ _ _ v1 (.val (.one (.d (.list _)))) from d1)).cons (show DenAV _ _ _ _ v0 (.val (.one (.d (.list _)))) from d0))
end
end Go.Proofs.YtcogfmileelkeaaDoor.eng
