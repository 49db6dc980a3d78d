/- Joined by wip/bundle.py: XEngTim XEngTim2. -/
import Derived.Test.YtjlhknppkodilaaGreatDoorGrpGr
import Derived.Test.YtjlhknppkodilaaGreatDoorGrpO
import Derived.Test.YtjlhknppkodilaaGreatDoorGrpS
set_option maxRecDepth 100000
namespace Go.Proofs.YtjlhknppkodilaaGreatDoor.eng
open Go.RowKit num mem seg q held ratA ratB ratC ratD ratE vars ratF natC natD natI sub32
def capQ (s a:Rat) (n k:Nat):Rat:=minQ s (a*((min (k:Int) ((n:Int)+1 - (k:Int)):Int):Rat))
def capsL (s a:Rat) (n:Nat):List Rat:=(List.range n).map fun i=>capQ s a n (i+1)
def sumL (l:List Rat):Rat:=l.foldl (· + ·) 0
theorem Zw (s a:Rat) (n:Nat):(capsL s a n).length=n:=by simp [capsL]
theorem ZbO {s a:Rat} {n i:Nat} (h:i< n):(capsL s a n)[i]? =some (capQ s a n (i+1)):=by simp [capsL,h]
theorem ZaF {l:List Rat} {i:Nat} {q:Rat} (h:l[i]? =some q):sumL (l.take (i+1))=sumL (l.take i)+q:=by
 unfold sumL
 rw [List.take_add_one,h,List.foldl_append];rfl
theorem Zfy {l:List Rat} {C:Nat} (h:∀ q,q∈l→qs q≤C):∀ i,qs (sumL (l.take i))≤8+i*(C+1):=by
 intro i
 induction i with
 |zero=>
  have:=Zh2 (n:=0) (by omega) (by omega)
  simpa [sumL] using this
 |succ i ih=>
  by_cases hi:i< l.length
  ·have e:l[i]? =some l[i]:=List.getElem?_eq_getElem hi
   rw [ZaF e]
   have h1:=Zek (sumL (l.take i)) l[i]
   have h2:=h _ (List.getElem_mem hi)
   rw [Nat.add_mul,Nat.one_mul];omega
  ·rw [List.take_of_length_le (by omega)] at ih ⊢
   rw [Nat.add_mul,Nat.one_mul];omega
theorem Zn0 (s a:Rat) (n k:Nat) (hn:n≤1099511627776) (hk:k≤1099511627776):qs (capQ s a n k)≤qs s+qs a+8:=by
 have h1:=Zh2 (n:=min (k:Int) ((n:Int)+1 - (k:Int))) (by omega) (by omega)
 have h2:=Zbo a ((min (k:Int) ((n:Int)+1 - (k:Int)):Int):Rat)
 unfold capQ minQ
 split<;>omega
theorem ZdV (s a:Rat) (n:Nat) (hn:n≤50):∀ q,q∈capsL s a n→qs q≤qs s+qs a+8:=by
 intro q hq
 obtain⟨i,hi,rfl⟩:=List.mem_map.1 hq
 have:=List.mem_range.1 hi
 exact Zn0 s a n (i+1) (by omega) (by omega)
section
variable {x y z t : RV} {K : AV → Prop}
theorem Zjp (n:Nat) (s a:RV) (hn:n≤50) (hs:s.z≤16777216) (ha:a.z≤16777216):Spec Tryz.prog Tab 31 [int (n:Int),rat s,rat a] (rat (cn (sumL (capsL s.q a.q n)))):=by
 refine Zf Tryz.func31 rfl rfl Tryz.ntmps31 rfl (by kernel_rfl) rfl rfl ?_
 refine k_of 0 (by omega) (by omega) fun q0 h0 z0=> ?_
 have hq0:q0=sumL ((capsL s.q a.q n).take 0):=by rw [h0,List.take_zero];rfl
 subst hq0
 refine⟨Nat,fun i=> [(0,int (n:Int)),(4,.val (.one (.ptr 4 0))),(5,.val (.one (.ptr 5 0))),(6,.val (.one (.ptr 6 0))),(7,.val (.one (.ptr 7 0))),(8,int ((i:Int)+1))],
  fun i=> [(4,.var 23 (rc s)),(5,.var 23 (rc a)),(6,.var 23 [.d (.v (.bool false)),.d (.v (.string ⟨#[]⟩)),.d (.v (.string ⟨#[]⟩))]),(7,.var 23 (rc (cn (sumL ((capsL s.q a.q n).take i)))))],
  fun i=>i≤n,fun i=>n - i,0,?_,Nat.zero_le _,fun i hi=> ?_⟩
 ·constructor<;>(repeat' (first|exact rfl|exact True.intro|apply And.intro))
 have hsum:=Zfy (ZdV s.q a.q n hn) i
 have z1:=s.z1
 have z2:=a.z1
 refine⟨fun e=> ?_,fun e=> ?_⟩
 ·have hlt:i< n:=by have:=of_decide_eq_true e;omega
  have hm:i*(qs s.q+qs a.q+8+1)≤50*(qs s.q+qs a.q+8+1):=Nat.mul_le_mul_right _ (by omega)
  have hw:IntKind.i64.wrap (IntKind.i64.wrap ((n:Int)+1) - ((i:Int)+1))=(n:Int)+1 - ((i+1:Nat):Int):=by rw [wrap64 ((n:Int)+1) (by omega) (by omega),wrap64 _ (by omega) (by omega)];omega
  have hc:(if IntKind.i64.wrap (IntKind.i64.wrap ((n:Int)+1) - ((i:Int)+1))< (i:Int)+1 then IntKind.i64.wrap (IntKind.i64.wrap ((n:Int)+1) - ((i:Int)+1)) else (i:Int)+1)=min ((i+1:Nat):Int) ((n:Int)+1 - ((i+1:Nat):Int)):=by rw [hw];split<;>omega
  refine k_of (if IntKind.i64.wrap (IntKind.i64.wrap ((n:Int)+1) - ((i:Int)+1))< (i:Int)+1 then IntKind.i64.wrap (IntKind.i64.wrap ((n:Int)+1) - ((i:Int)+1)) else (i:Int)+1) (by rw [hc];omega) (by rw [hc];omega) fun q1 h1 z1=> ?_
  rw [hc] at h1
  refine Zhj (by omega) (by omega) fun q2 h2 z2=> ?_
  refine Zox (by omega) (by omega) fun q3 h3 z3=> ?_
  refine Znb (by rw [cn_z];omega) (by omega) fun q4 h4 z4=> ?_
  have hq:sumL ((capsL s.q a.q n).take (i+1))=q4:=by
   rw [ZaF (ZbO hlt)]
   simp only [cn_q] at h1 h2 h3 h4
   subst h1 h2 h3 h4;rfl
  refine⟨by kernel_rfl,?_⟩
  refine⟨i+1,hlt,by simp only;omega,?_⟩
  constructor<;>(repeat' (first|exact rfl|exact True.intro|apply And.intro))
  all_goals first
   |exact congrArg (fun n:Int=>D.v (.int .i64 n)) (show ((i+1:Nat):Int)+1=IntKind.i64.wrap ((i:Int)+1+1) by rw [wrap64 _ (by omega) (by omega)];omega)
   |(rw [hq];exact rfl)
 ·have hge:i=n:=by have:=of_decide_eq_false e;omega
  subst hge
  refine Eq.trans (b:=rat (cn (sumL ((capsL s.q a.q i).take i)))) ?_ rfl
  rw [List.take_of_length_le (by rw [Zw];omega)]
theorem ZgD (s a:Rat) (n:Nat) (hn:n≤50):qs (sumL (capsL s a n))≤8+50*(qs s+qs a+9):=by
 have h:=Zfy (ZdV s a n hn) n
 rw [List.take_of_length_le (by rw [Zw];omega)] at h
 have hm:n*(qs s+qs a+8+1)≤50*(qs s+qs a+8+1):=Nat.mul_le_mul_right _ (by omega)
 omega
theorem Zhl (n:Nat) {m:Int} {s a:RV} (hm:m=(n:Int)) (hn:n≤50) (hs:s.z≤16777216) (ha:a.z≤16777216) (k:∀ q,q=sumL (capsL s.q a.q n)→(cn q).z≤8+50*(s.z+a.z+11)→K (rat (cn q))):Ask 31 [int m,rat s,rat a] K:=by
 subst hm
 exact use (Zjp n s a hn hs ha) rfl (k _ rfl (by rw [cn_z];refine Nat.le_trans (ZgD s.q a.q n hn) ?_;have:=s.z1;have:=a.z1;omega))
def firstN (p:Nat→Bool):Nat→Nat→Nat
 |0,n=>n
 |f+1,n=>if p n then n else firstN p f (n+1)
theorem ZlD (p:Nat→Bool):∀ f n,n≤firstN p f n∧firstN p f n≤n+f:=by
 intro f
 induction f with
 |zero=>intro n;exact⟨Nat.le_refl _,Nat.le_refl _⟩
 |succ f ih=>
  intro n
  unfold firstN
  split
  ·exact⟨Nat.le_refl _,by omega⟩
  ·have:=ih (n+1);omega
def enough (s a far:Rat) (n:Nat):Bool:=decide (far≤sumL (capsL s a n))
@[irreducible] def needN (s a far:Rat):Nat:=firstN (enough s a far) 50 1
theorem need0 (s a f:Rat):firstN (enough s a f) (50 - 0) (0+1)=needN s a f:=by unfold needN;rfl
def needI (s a far:Rat):Int:=if needN s a far≤50 then (needN s a far:Int) else -1
theorem ZkX (f s a:RV) (hf:f.z≤16777216) (hs:s.z≤16777216) (ha:a.z≤16777216):Spec Tryz.prog Tab 29 [rat f,rat s,rat a] (int (needI s.q a.q f.q)):=by
 refine Zf Tryz.func29 rfl rfl Tryz.ntmps29 rfl (by kernel_rfl) rfl rfl ?_
 refine⟨Nat,fun i=> [(3,.val (.one (.ptr 3 0))),(4,.val (.one (.ptr 4 0))),(5,.val (.one (.ptr 5 0))),(7,int ((i:Int)+1))],
  fun i=> [(3,.var 23 (rc f)),(4,.var 23 (rc s)),(5,.var 23 (rc a))],
  fun i=>i≤50∧firstN (enough s.q a.q f.q) (50 - i) (i+1)=needN s.q a.q f.q,fun i=>50 - i,0,?_,⟨Nat.zero_le _,need0 _ _ _⟩,fun i hi=> ?_⟩
 ·constructor<;>(repeat' (first|exact rfl|exact True.intro|apply And.intro))
 obtain⟨hi,hfn⟩:=hi
 refine⟨fun e=> ?_,fun e=> ?_⟩
 ·have hlt:i< 50:=by have:=of_decide_eq_true e;omega
  rw [show 50 - i=(50 - (i+1))+1 by omega,firstN] at hfn
  refine Zhl (i+1) (by omega) (by omega) (by omega) (by omega) fun q1 h1 z1=> ?_
  refine Zlj (by omega) (by omega) fun n1 h2=> ?_
  simp only [cn_q] at h2
  refine⟨by kernel_rfl,?_⟩
  refine⟨fun e1=> ?_,fun e1=> ?_⟩
  ·have h3:f.q≤q1:=(Ziv _ _).1 (by rw [← h2];exact of_decide_eq_true e1)
   rw [if_pos (by rw [enough,← h1];exact decide_eq_true h3)] at hfn
   refine Eq.trans (b:=int ((i:Int)+1)) ?_ rfl
   rw [needI,← hfn,if_pos (by omega)];rfl
  ·have h3:¬ f.q≤q1:=fun h=>of_decide_eq_false e1 (by rw [h2];exact(Ziv _ _).2 h)
   rw [if_neg (by rw [enough,← h1,decide_eq_false h3];simp)] at hfn
   refine⟨i+1,⟨by omega,hfn⟩,by simp only;omega,?_⟩
   constructor<;>(repeat' (first|exact rfl|exact True.intro|apply And.intro))
   all_goals exact congrArg (fun n:Int=>D.v (.int .i64 n)) (show ((i+1:Nat):Int)+1=IntKind.i64.wrap ((i:Int)+1+1) by rw [wrap64 _ (by omega) (by omega)];omega)
 ·have hge:i=50:=by have:=of_decide_eq_false e;omega
  subst hge
  refine Eq.trans (b:=int (-1)) ?_ rfl
  rw [needI,← hfn,if_neg (by show ¬ 51≤50;omega)]
theorem Zpu {f s a:RV} (hf:f.z≤16777216) (hs:s.z≤16777216) (ha:a.z≤16777216) (k:K (int (needI s.q a.q f.q))):Ask 29 [rat f,rat s,rat a] K:=use (ZkX f s a hf hs ha) rfl k
def profE (f s a:Rat) (ticks:Int):Int:=
 if f< 0∨s≤0∨a≤0∨ticks< 0∨50< ticks then 1
 else if 50< needN s a f∨(0< ticks∧ticks< (needN s a f:Int)) then 19 else 0
def profN (f s a:Rat) (ticks:Int):Nat:=max (needN s a f) ticks.toNat
def profL (f s a:Rat) (ticks:Int):List Rat:=
 if profE f s a ticks=0 then (capsL s a (profN f s a ticks)).map fun c=>f / sumL (capsL s a (profN f s a ticks))*c else []
theorem ZoN {s a:Rat} (hs:0< s) (ha:0< a) {n k:Nat} (hk:0< k) (hkn:k≤n):0< capQ s a n k:=by
 unfold capQ minQ
 split
 ·exact hs
 ·have:(0:Rat)< ((min (k:Int) ((n:Int)+1 - (k:Int)):Int):Rat):=Rat.intCast_pos.2 (by omega)
  exact Rat.mul_pos ha this
theorem Zn7 {l:List Rat} (h:∀ q,q∈l→0< q):∀ i,0< i→i≤l.length→0< sumL (l.take i):=by
 intro i
 induction i with
 |zero=>intro h0;omega
 |succ i ih=>
  intro _ hi
  have e:l[i]? =some l[i]:=List.getElem?_eq_getElem (by omega)
  rw [ZaF e]
  have h1:=h _ (List.getElem_mem (by omega:i< l.length))
  by_cases h0:i=0
  ·subst h0
   have:sumL (l.take 0)=0:=by simp [sumL]
   rw [this,Rat.zero_add];exact h1
  ·have h2:=ih (by omega) (by omega)
   grind
theorem ZaZ {s a:Rat} (hs:0< s) (ha:0< a) {n:Nat} (hn:0< n):0< sumL (capsL s a n):=by
 have:=Zn7 (l:=capsL s a n) (fun q hq=>by
  obtain⟨i,hi,rfl⟩:=List.mem_map.1 hq
  exact ZoN hs ha (by omega) (by have:=List.mem_range.1 hi;omega)) n hn (by rw [Zw];omega)
 rwa [List.take_of_length_le (by rw [Zw];omega)] at this
end
end Go.Proofs.YtjlhknppkodilaaGreatDoor.eng
namespace Go.Proofs.YtjlhknppkodilaaGreatDoor.eng
open Go.RowKit num mem seg q held ratA ratB ratC ratD ratE vars ratF natC natD natI sub32
section
variable {x y z t : RV} {K : AV → Prop}
theorem Zke {q:Rat}:sgnQ q< 0↔q< 0:=by
 rw [← ZeT];unfold sgnQ
 by_cases h:q.num=0
 ·rw [if_pos h];omega
 ·rw [if_neg h];by_cases h2:q.num< 0
  ·rw [if_pos h2];omega
  ·rw [if_neg h2];omega
theorem ZeU {q:Rat}:sgnQ q≤0↔q≤0:=by
 have:=ZeS q
 rw [← Rat.not_lt,← this];omega
theorem ZmT (s a f:Rat):1≤needN s a f∧needN s a f≤51:=by unfold needN;exact ZlD _ 50 1
def chL (f s a:Rat) (n:Nat):List Rat:=(capsL s a n).map fun c=>f / sumL (capsL s a n)*c
theorem Zbl (f s a:Rat) (n:Nat):(chL f s a n).length=n:=by rw [chL,List.length_map,Zw]
theorem ZnZ {f s a:Rat} {n i:Nat} (h:i< n):(chL f s a n)[i]? =some (f / sumL (capsL s a n)*capQ s a n (i+1)):=by rw [chL,List.getElem?_map,ZbO h];rfl
theorem Zfp {f s a:Rat} {n i:Nat} (h:i< n):(chL f s a n).take (i+1)=(chL f s a n).take i++ [f / sumL (capsL s a n)*capQ s a n (i+1)]:=by
 rw [List.take_add_one,ZnZ h];rfl
theorem ZcK {f s a:Rat} {t:Int} (h:f< 0∨s≤0∨a≤0∨t< 0∨50< t):profE f s a t=1:=by unfold profE;rw [if_pos h]
theorem Zdg {f s a:Rat} {t:Int} (h:¬ (f< 0∨s≤0∨a≤0∨t< 0∨50< t)) (h2:50< needN s a f∨(0< t∧t< (needN s a f:Int))):profE f s a t=19:=by unfold profE;rw [if_neg h,if_pos h2]
theorem ZcL {f s a:Rat} {t:Int} (h:¬ (f< 0∨s≤0∨a≤0∨t< 0∨50< t)) (h2:¬ (50< needN s a f∨(0< t∧t< (needN s a f:Int)))):profE f s a t=0:=by unfold profE;rw [if_neg h,if_neg h2]
theorem Zh5 {f s a:Rat} {t e:Int} (h:profE f s a t=e) (he:e≠0):two (rats (profL f s a t)) (int (profE f s a t))=two (rats []) (int e):=by
 unfold profL
 rw [h,if_neg he]
theorem ZkJ {f s a:Rat} {t:Int} (h:profE f s a t=0):two (rats (profL f s a t)) (int (profE f s a t))=two (rats (chL f s a (profN f s a t))) (int 0):=by
 unfold profL chL
 rw [h,if_pos rfl]
set_option maxHeartbeats 4000000 in
theorem ZkI (f s a:RV) (t:Int) (h1:-9223372036854775808≤t) (h2:t≤9223372036854775807) (hf:f.z≤16777216) (hs:s.z≤16777216) (ha:a.z≤16777216):
  Spec Tryz.prog Tab 10 [rat f,rat s,rat a,int t] (two (rats (profL f.q s.q a.q t)) (int (profE f.q s.q a.q t))):=by
 have bad:(f.q< 0∨s.q≤0∨a.q≤0∨t< 0∨50< t)→two (rats (profL f.q s.q a.q t)) (int (profE f.q s.q a.q t))=two (rats []) (int 1):=fun h=>Zh5 (ZcK h) (by decide)
 refine Zf Tryz.func10 rfl rfl Tryz.ntmps10 rfl (by kernel_rfl) rfl rfl ?_
 refine Zc5 (by omega) fun n1 g1=> ?_
 refine fork (fun e1=> ?_) (fun e1=> ?_)
 ·refine⟨fun _=> ?_,fun e=>by simp at e⟩
  exact bad (.inl (Zke.1 (by rw [← g1];exact of_decide_eq_true e1)))
 have c1:¬ f.q< 0:=fun h=>of_decide_eq_false e1 (by rw [g1];exact Zke.2 h)
 refine Zc5 (by omega) fun n2 g2=> ?_
 refine fork (fun e2=> ?_) (fun e2=> ?_)
 ·refine⟨fun _=> ?_,fun e=>by simp at e⟩
  exact bad (.inr (.inl (ZeU.1 (by rw [← g2];exact of_decide_eq_true e2))))
 have c2:¬ s.q≤0:=fun h=>of_decide_eq_false e2 (by rw [g2];exact ZeU.2 h)
 refine Zc5 (by omega) fun n3 g3=> ?_
 refine fork (fun e3=> ?_) (fun e3=> ?_)
 ·refine⟨fun _=> ?_,fun e=>by simp at e⟩
  exact bad (.inr (.inr (.inl (ZeU.1 (by rw [← g3];exact of_decide_eq_true e3)))))
 have c3:¬ a.q≤0:=fun h=>of_decide_eq_false e3 (by rw [g3];exact ZeU.2 h)
 refine fork (fun e4=> ?_) (fun e4=> ?_)
 ·refine⟨fun _=> ?_,fun e=>by simp at e⟩
  exact bad (.inr (.inr (.inr (.inl (of_decide_eq_true e4)))))
 have c4:¬ t< 0:=of_decide_eq_false e4
 refine⟨fun e5=> ?_,fun e5=> ?_⟩
 ·exact bad (.inr (.inr (.inr (.inr (of_decide_eq_true e5)))))
 have c5:¬ 50< t:=of_decide_eq_false e5
 have c:¬ (f.q< 0∨s.q≤0∨a.q≤0∨t< 0∨50< t):=by
  rintro(h|h|h|h|h)
  ·exact c1 h
  ·exact c2 h
  ·exact c3 h
  ·exact c4 h
  ·exact c5 h
 refine Zpu (by omega) (by omega) (by omega) ?_
 have late:(50< needN s.q a.q f.q∨(0< t∧t< (needN s.q a.q f.q:Int)))→two (rats (profL f.q s.q a.q t)) (int (profE f.q s.q a.q t))=two (rats []) (int 19):=fun h=>Zh5 (Zdg c h) (by decide)
 obtain⟨r1,r2⟩:=ZmT s.q a.q f.q
 have nI:¬ 50< needN s.q a.q f.q→needI s.q a.q f.q=(needN s.q a.q f.q:Int):=fun h=>by unfold needI;rw [if_pos (by omega)]
 have nJ:needI s.q a.q f.q< 0↔50< needN s.q a.q f.q:=by unfold needI;split<;>omega
 refine fork (fun e6=> ?_) (fun e6=> ?_)
 ·refine⟨fun _=> ?_,fun e=>by simp at e⟩
  exact late (.inl (nJ.1 (of_decide_eq_true e6)))
 have c6:¬ 50< needN s.q a.q f.q:=fun h=>of_decide_eq_false e6 (nJ.2 h)
 have hnI:=nI c6
 generalize needI s.q a.q f.q=m at*
 subst hnI
 have goal:∀ {X:Prop},(¬ (0< t∧t< (needN s.q a.q f.q:Int))→X)→(¬ (0< t∧t< (needN s.q a.q f.q:Int)))→X:=fun h1 h2=>h1 h2
 have hN:¬ (0< t∧t< (needN s.q a.q f.q:Int))→(if t >(needN s.q a.q f.q:Int) then t else (needN s.q a.q f.q:Int))=(profN f.q s.q a.q t:Int)∧profN f.q s.q a.q t≤50∧0< profN f.q s.q a.q t:=by
  intro h
  unfold profN
  constructor
  ·split<;>omega
  ·omega
 refine fork (fun e7=> ?_) (fun e7=> ?_)
 ·refine⟨fun e8=> ?_,fun e8=> ?_⟩
  ·exact late (.inr ⟨of_decide_eq_true e7,of_decide_eq_true e8⟩)
  refine goal ?_ (fun h=>of_decide_eq_false e8 h.2)
  clear e7 e8
  intro c7
  have w1:=(hN c7).1
  have w2:=(hN c7).2.1
  have w3:=(hN c7).2.2
  have hres:=ZkJ (ZcL c (fun h=>h.elim c6 c7))
  let N:=profN f.q s.q a.q t
  change _=two (rats (chL f.q s.q a.q N)) (int 0) at hres
  change _=(N:Int) at w1
  change N≤50 at w2
  change 0< N at w3
  clear_value N
  have hpos:=ZaZ (Rat.not_le.1 c2) (Rat.not_le.1 c3) w3
  refine Zhl N w1 w2 (by omega) (by omega) fun q1 g4 z1=> ?_
  refine Zpy (by omega) (by omega) (by rw [cn_q,g4];exact fun h=>Rat.ne_of_gt hpos h) fun q2 g5 z2=> ?_
  rw [cn_q,g4] at g5
  refine⟨by kernel_rfl,?_⟩
  refine⟨Nat,fun i=> [(5,.val (.one (.ptr 5 0))),(6,.val (.one (.ptr 6 0))),(10,int (N:Int)),(11,.val (.one (.ptr 11 0))),(13,.val (.one (.row 83 0))),(14,int ((i:Int)+1))],
   fun i=> [(5,.var 23 (rc s)),(6,.var 23 (rc a)),(11,.var 23 (rc (cn q2))),(83,.row 23 3 0 (((chL f.q s.q a.q N).take i).map fun q=>rd (cn q)) true)],
   fun i=>i≤N,fun i=>N - i,0,?_,Nat.zero_le _,fun i hi=> ?_⟩
  ·constructor<;>(repeat' (first|exact rfl|exact True.intro|exact⟨_,_,rfl⟩|exact(by decide:0< 3)|apply And.intro))
   all_goals exact congrArg (fun n:Int=>D.v (.int .i64 n)) w1.symm
  refine⟨fun e=> ?_,fun e=> ?_⟩
  ·have hlt:i< N:=by have:=of_decide_eq_true e;omega
   have hw:IntKind.i64.wrap (IntKind.i64.wrap ((N:Int)+1) - ((i:Int)+1))=(N:Int)+1 - ((i+1:Nat):Int):=by rw [wrap64 ((N:Int)+1) (by omega) (by omega),wrap64 _ (by omega) (by omega)];omega
   have hc:(if IntKind.i64.wrap (IntKind.i64.wrap ((N:Int)+1) - ((i:Int)+1))< (i:Int)+1 then IntKind.i64.wrap (IntKind.i64.wrap ((N:Int)+1) - ((i:Int)+1)) else (i:Int)+1)=min ((i+1:Nat):Int) ((N:Int)+1 - ((i+1:Nat):Int)):=by rw [hw];split<;>omega
   have hlen:((chL f.q s.q a.q N).take i).length≤50:=by rw [List.length_take];omega
   refine k_of (if IntKind.i64.wrap (IntKind.i64.wrap ((N:Int)+1) - ((i:Int)+1))< (i:Int)+1 then IntKind.i64.wrap (IntKind.i64.wrap ((N:Int)+1) - ((i:Int)+1)) else (i:Int)+1) (by rw [hc];omega) (by rw [hc];omega) fun q3 g6 z3=> ?_
   rw [hc] at g6
   refine Zhj (by omega) (by omega) fun q4 g7 z4=> ?_
   refine Zox (by omega) (by omega) fun q5 g8 z5=> ?_
   refine Zhj (by omega) (by omega) fun q6 g9 z6=> ?_
   have hq:(chL f.q s.q a.q N).take (i+1)=(chL f.q s.q a.q N).take i++ [q6]:=by
    rw [Zfp hlt]
    simp only [cn_q] at g6 g7 g8 g9
    rw [g9,g8,g7,g6,g5];rfl
   refine⟨⟨Ze0 [q6],?_,?_⟩,?_⟩
   ·simp only [List.length_map,List.length_cons,List.length_nil];omega
   ·simp only [List.length_map,List.length_cons,List.length_nil];omega
   refine⟨by kernel_rfl,?_⟩
   refine⟨i+1,hlt,by simp only;omega,?_⟩
   constructor<;>(repeat' (first|exact rfl|exact True.intro|apply And.intro))
   all_goals first
    |exact congrArg (fun n:Int=>D.v (.int .i64 n)) (show ((i+1:Nat):Int)+1=IntKind.i64.wrap ((i:Int)+1+1) by rw [wrap64 _ (by omega) (by omega)];omega)
    |(rw [hq,List.map_append];exact rfl)
  ·have hge:i=N:=by have:=of_decide_eq_false e;omega
   subst hge
   refine Eq.trans hres ?_
   refine Eq.trans (b:=two (rats ((chL f.q s.q a.q i).take i)) (int 0)) ?_ rfl
   rw [List.take_of_length_le (by rw [Zbl];omega)]
 ·refine⟨fun e=>by simp at e,fun _=> ?_⟩
  refine goal ?_ (fun h=>of_decide_eq_false e7 h.1)
  clear e7
  intro c7
  have w1:=(hN c7).1
  have w2:=(hN c7).2.1
  have w3:=(hN c7).2.2
  have hres:=ZkJ (ZcL c (fun h=>h.elim c6 c7))
  let N:=profN f.q s.q a.q t
  change _=two (rats (chL f.q s.q a.q N)) (int 0) at hres
  change _=(N:Int) at w1
  change N≤50 at w2
  change 0< N at w3
  clear_value N
  have hpos:=ZaZ (Rat.not_le.1 c2) (Rat.not_le.1 c3) w3
  refine Zhl N w1 w2 (by omega) (by omega) fun q1 g4 z1=> ?_
  refine Zpy (by omega) (by omega) (by rw [cn_q,g4];exact fun h=>Rat.ne_of_gt hpos h) fun q2 g5 z2=> ?_
  rw [cn_q,g4] at g5
  refine⟨by kernel_rfl,?_⟩
  refine⟨Nat,fun i=> [(5,.val (.one (.ptr 5 0))),(6,.val (.one (.ptr 6 0))),(10,int (N:Int)),(11,.val (.one (.ptr 11 0))),(13,.val (.one (.row 83 0))),(14,int ((i:Int)+1))],
   fun i=> [(5,.var 23 (rc s)),(6,.var 23 (rc a)),(11,.var 23 (rc (cn q2))),(83,.row 23 3 0 (((chL f.q s.q a.q N).take i).map fun q=>rd (cn q)) true)],
   fun i=>i≤N,fun i=>N - i,0,?_,Nat.zero_le _,fun i hi=> ?_⟩
  ·constructor<;>(repeat' (first|exact rfl|exact True.intro|exact⟨_,_,rfl⟩|exact(by decide:0< 3)|apply And.intro))
   all_goals exact congrArg (fun n:Int=>D.v (.int .i64 n)) w1.symm
  refine⟨fun e=> ?_,fun e=> ?_⟩
  ·have hlt:i< N:=by have:=of_decide_eq_true e;omega
   have hw:IntKind.i64.wrap (IntKind.i64.wrap ((N:Int)+1) - ((i:Int)+1))=(N:Int)+1 - ((i+1:Nat):Int):=by rw [wrap64 ((N:Int)+1) (by omega) (by omega),wrap64 _ (by omega) (by omega)];omega
   have hc:(if IntKind.i64.wrap (IntKind.i64.wrap ((N:Int)+1) - ((i:Int)+1))< (i:Int)+1 then IntKind.i64.wrap (IntKind.i64.wrap ((N:Int)+1) - ((i:Int)+1)) else (i:Int)+1)=min ((i+1:Nat):Int) ((N:Int)+1 - ((i+1:Nat):Int)):=by rw [hw];split<;>omega
   have hlen:((chL f.q s.q a.q N).take i).length≤50:=by rw [List.length_take];omega
   refine k_of (if IntKind.i64.wrap (IntKind.i64.wrap ((N:Int)+1) - ((i:Int)+1))< (i:Int)+1 then IntKind.i64.wrap (IntKind.i64.wrap ((N:Int)+1) - ((i:Int)+1)) else (i:Int)+1) (by rw [hc];omega) (by rw [hc];omega) fun q3 g6 z3=> ?_
   rw [hc] at g6
   refine Zhj (by omega) (by omega) fun q4 g7 z4=> ?_
   refine Zox (by omega) (by omega) fun q5 g8 z5=> ?_
   refine Zhj (by omega) (by omega) fun q6 g9 z6=> ?_
   have hq:(chL f.q s.q a.q N).take (i+1)=(chL f.q s.q a.q N).take i++ [q6]:=by
    rw [Zfp hlt]
    simp only [cn_q] at g6 g7 g8 g9
    rw [g9,g8,g7,g6,g5];rfl
   refine⟨⟨Ze0 [q6],?_,?_⟩,?_⟩
   ·simp only [List.length_map,List.length_cons,List.length_nil];omega
   ·simp only [List.length_map,List.length_cons,List.length_nil];omega
   refine⟨by kernel_rfl,?_⟩
   refine⟨i+1,hlt,by simp only;omega,?_⟩
   constructor<;>(repeat' (first|exact rfl|exact True.intro|apply And.intro))
   all_goals first
    |exact congrArg (fun n:Int=>D.v (.int .i64 n)) (show ((i+1:Nat):Int)+1=IntKind.i64.wrap ((i:Int)+1+1) by rw [wrap64 _ (by omega) (by omega)];omega)
    |(rw [hq,List.map_append];exact rfl)
  ·have hge:i=N:=by have:=of_decide_eq_false e;omega
   subst hge
   refine Eq.trans hres ?_
   refine Eq.trans (b:=two (rats ((chL f.q s.q a.q i).take i)) (int 0)) ?_ rfl
   rw [List.take_of_length_le (by rw [Zbl];omega)]
end
end Go.Proofs.YtjlhknppkodilaaGreatDoor.eng
