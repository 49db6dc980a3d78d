/- Contracts: timing.cover, timing.need. -/
import Derived.Test.YtbgokkfhohodgaaDoorEngGrid3
import Derived.Test.YtbgokkfhohodgaaDoorGrpO
set_option maxRecDepth 100000
namespace Go.Proofs.YtbgokkfhohodgaaDoor.eng
open Go.RowKit num mem seg q held ratA ratB ratC ratD ratE vars ratF natC natD natI sub32
def capQ (s a:Rat) (n k:Nat):Rat:=minQ s (a*((min (k:Int) ((n:Int)+1 - (k:Int)):Int):Rat))
def capsL (s a:Rat) (n:Nat):List Rat:=(List.range n).map fun i=>capQ s a n (i+1)
def sumL (l:List Rat):Rat:=l.foldl (· + ·) 0
theorem Zy (s a:Rat) (n:Nat):(capsL s a n).length=n:=by simp [capsL]
theorem Zb9 {s a:Rat} {n i:Nat} (h:i< n):(capsL s a n)[i]? =some (capQ s a n (i+1)):=by simp [capsL,h]
theorem Zbt {l:List Rat} {i:Nat} {q:Rat} (h:l[i]? =some q):sumL (l.take (i+1))=sumL (l.take i)+q:=by
 unfold sumL
 rw [List.take_add_one,h,List.foldl_append];rfl
theorem ZdN {l:List Rat} {C:Nat} (h:∀ q,q∈l→qs q≤C):∀ i,qs (sumL (l.take i))≤8+i*(C+1):=by
 intro i
 induction i with
 |zero=>
  have:=Zfq (n:=0) (by omega) (by omega)
  simpa [sumL] using this
 |succ i ih=>
  by_cases hi:i< l.length
  ·have e:l[i]? =some l[i]:=List.getElem?_eq_getElem hi
   rw [Zbt e]
   have h1:=Zfr (sumL (l.take i)) l[i]
   have h2:=h _ (List.getElem_mem hi)
   rw [Nat.add_mul,Nat.one_mul];omega
  ·rw [List.take_of_length_le (by omega)] at ih ⊢
   rw [Nat.add_mul,Nat.one_mul];omega
theorem Zjp (s a:Rat) (n k:Nat) (hn:n≤1099511627776) (hk:k≤1099511627776):qs (capQ s a n k)≤qs s+qs a+8:=by
 have h1:=Zfq (n:=min (k:Int) ((n:Int)+1 - (k:Int))) (by omega) (by omega)
 have h2:=Zd1 a ((min (k:Int) ((n:Int)+1 - (k:Int)):Int):Rat)
 unfold capQ minQ
 split<;>omega
theorem ZcA (s a:Rat) (n:Nat) (hn:n≤50):∀ q,q∈capsL s a n→qs q≤qs s+qs a+8:=by
 intro q hq
 obtain⟨i,hi,rfl⟩:=List.mem_map.1 hq
 have:=List.mem_range.1 hi
 exact Zjp s a n (i+1) (by omega) (by omega)
section
variable {x y z t : RV} {K : AV → Prop}
theorem Zgm (n:Nat) (s a:RV) (hn:n≤50) (hs:s.z≤16777216) (ha:a.z≤16777216):Spec Tryd.prog Tab 38 [int (n:Int),rat s,rat a] (rat (cn (sumL (capsL s.q a.q n)))):=by
 refine Zk Tryd.func38 rfl rfl Tryd.ntmps38 rfl (by kernel_rfl) rfl rfl ?_
 refine k_of 0 (by omega) (by omega) fun q0 h0 z0=> ?_
 have hq0:q0=sumL ((capsL s.q a.q n).take 0):=by rw [h0,List.take_zero];rfl
 subst hq0
 refine⟨Nat,fun i=> [(0,int (n:Int)),(4,.val (.one (.ptr 4 0))),(5,.val (.one (.ptr 5 0))),(6,.val (.one (.ptr 6 0))),(7,.val (.one (.ptr 7 0))),(8,int ((i:Int)+1))],
  fun i=> [(4,.var 23 (rc s)),(5,.var 23 (rc a)),(6,.var 23 [.d (.v (.bool false)),.d (.v (.string ⟨#[]⟩)),.d (.v (.string ⟨#[]⟩))]),(7,.var 23 (rc (cn (sumL ((capsL s.q a.q n).take i)))))],
  fun i=>i≤n,fun i=>n - i,0,?_,Nat.zero_le _,fun i hi=> ?_⟩
 ·constructor<;>(repeat' (first|exact rfl|exact True.intro|apply And.intro))
 have hsum:=ZdN (ZcA s.q a.q n hn) i
 have z1:=s.z1
 have z2:=a.z1
 refine⟨fun e=> ?_,fun e=> ?_⟩
 ·have hlt:i< n:=by have:=of_decide_eq_true e;omega
  have hm:i*(qs s.q+qs a.q+8+1)≤50*(qs s.q+qs a.q+8+1):=Nat.mul_le_mul_right _ (by omega)
  have hw:IntKind.i64.wrap (IntKind.i64.wrap ((n:Int)+1) - ((i:Int)+1))=(n:Int)+1 - ((i+1:Nat):Int):=by rw [wrap64 ((n:Int)+1) (by omega) (by omega),wrap64 _ (by omega) (by omega)];omega
  have hc:(if IntKind.i64.wrap (IntKind.i64.wrap ((n:Int)+1) - ((i:Int)+1))< (i:Int)+1 then IntKind.i64.wrap (IntKind.i64.wrap ((n:Int)+1) - ((i:Int)+1)) else (i:Int)+1)=min ((i+1:Nat):Int) ((n:Int)+1 - ((i+1:Nat):Int)):=by rw [hw];split<;>omega
  refine k_of (if IntKind.i64.wrap (IntKind.i64.wrap ((n:Int)+1) - ((i:Int)+1))< (i:Int)+1 then IntKind.i64.wrap (IntKind.i64.wrap ((n:Int)+1) - ((i:Int)+1)) else (i:Int)+1) (by rw [hc];omega) (by rw [hc];omega) fun q1 h1 z1=> ?_
  rw [hc] at h1
  refine ZhE (by omega) (by omega) fun q2 h2 z2=> ?_
  refine ZjO (by omega) (by omega) fun q3 h3 z3=> ?_
  refine ZkS (by rw [cn_z];omega) (by omega) fun q4 h4 z4=> ?_
  have hq:sumL ((capsL s.q a.q n).take (i+1))=q4:=by
   rw [Zbt (Zb9 hlt)]
   simp only [cn_q] at h1 h2 h3 h4
   subst h1 h2 h3 h4;rfl
  refine⟨by kernel_rfl,?_⟩
  refine⟨i+1,hlt,by simp only;omega,?_⟩
  constructor<;>(repeat' (first|exact rfl|exact True.intro|apply And.intro))
  all_goals first
   |exact congrArg (fun n:Int=>D.v (.int .i64 n)) (show ((i+1:Nat):Int)+1=IntKind.i64.wrap ((i:Int)+1+1) by rw [wrap64 _ (by omega) (by omega)];omega)
   |(rw [hq];exact rfl)
 ·have hge:i=n:=by have:=of_decide_eq_false e;omega
  subst hge
  refine Eq.trans (b:=rat (cn (sumL ((capsL s.q a.q i).take i)))) ?_ rfl
  rw [List.take_of_length_le (by rw [Zy];omega)]
theorem Zey (s a:Rat) (n:Nat) (hn:n≤50):qs (sumL (capsL s a n))≤8+50*(qs s+qs a+9):=by
 have h:=ZdN (ZcA s a n hn) n
 rw [List.take_of_length_le (by rw [Zy];omega)] at h
 have hm:n*(qs s+qs a+8+1)≤50*(qs s+qs a+8+1):=Nat.mul_le_mul_right _ (by omega)
 omega
theorem ZeZ (n:Nat) {m:Int} {s a:RV} (hm:m=(n:Int)) (hn:n≤50) (hs:s.z≤16777216) (ha:a.z≤16777216) (k:∀ q,q=sumL (capsL s.q a.q n)→(cn q).z≤8+50*(s.z+a.z+11)→K (rat (cn q))):Ask 38 [int m,rat s,rat a] K:=by
 subst hm
 exact use (Zgm n s a hn hs ha) rfl (k _ rfl (by rw [cn_z];refine Nat.le_trans (Zey s.q a.q n hn) ?_;have:=s.z1;have:=a.z1;omega))
def firstN (p:Nat→Bool):Nat→Nat→Nat
 |0,n=>n
 |f+1,n=>if p n then n else firstN p f (n+1)
theorem ZhR (p:Nat→Bool):∀ f n,n≤firstN p f n∧firstN p f n≤n+f:=by
 intro f
 induction f with
 |zero=>intro n;exact⟨Nat.le_refl _,Nat.le_refl _⟩
 |succ f ih=>
  intro n
  unfold firstN
  split
  ·exact⟨Nat.le_refl _,by omega⟩
  ·have:=ih (n+1);omega
def enough (s a far:Rat) (n:Nat):Bool:=decide (far≤sumL (capsL s a n))
@[irreducible] def needN (s a far:Rat):Nat:=firstN (enough s a far) 50 1
theorem need0 (s a f:Rat):firstN (enough s a f) (50 - 0) (0+1)=needN s a f:=by unfold needN;rfl
def needI (s a far:Rat):Int:=if needN s a far≤50 then (needN s a far:Int) else -1
theorem Zhr (f s a:RV) (hf:f.z≤16777216) (hs:s.z≤16777216) (ha:a.z≤16777216):Spec Tryd.prog Tab 36 [rat f,rat s,rat a] (int (needI s.q a.q f.q)):=by
 refine Zk Tryd.func36 rfl rfl Tryd.ntmps36 rfl (by kernel_rfl) rfl rfl ?_
 refine⟨Nat,fun i=> [(3,.val (.one (.ptr 3 0))),(4,.val (.one (.ptr 4 0))),(5,.val (.one (.ptr 5 0))),(7,int ((i:Int)+1))],
  fun i=> [(3,.var 23 (rc f)),(4,.var 23 (rc s)),(5,.var 23 (rc a))],
  fun i=>i≤50∧firstN (enough s.q a.q f.q) (50 - i) (i+1)=needN s.q a.q f.q,fun i=>50 - i,0,?_,⟨Nat.zero_le _,need0 _ _ _⟩,fun i hi=> ?_⟩
 ·constructor<;>(repeat' (first|exact rfl|exact True.intro|apply And.intro))
 obtain⟨hi,hfn⟩:=hi
 refine⟨fun e=> ?_,fun e=> ?_⟩
 ·have hlt:i< 50:=by have:=of_decide_eq_true e;omega
  rw [show 50 - i=(50 - (i+1))+1 by omega,firstN] at hfn
  refine ZeZ (i+1) (by omega) (by omega) (by omega) (by omega) fun q1 h1 z1=> ?_
  refine ZkR (by omega) (by omega) fun n1 h2=> ?_
  simp only [cn_q] at h2
  refine⟨by kernel_rfl,?_⟩
  refine⟨fun e1=> ?_,fun e1=> ?_⟩
  ·have h3:f.q≤q1:=(Zjn _ _).1 (by rw [← h2];exact of_decide_eq_true e1)
   rw [if_pos (by rw [enough,← h1];exact decide_eq_true h3)] at hfn
   refine Eq.trans (b:=int ((i:Int)+1)) ?_ rfl
   rw [needI,← hfn,if_pos (by omega)];rfl
  ·have h3:¬ f.q≤q1:=fun h=>of_decide_eq_false e1 (by rw [h2];exact(Zjn _ _).2 h)
   rw [if_neg (by rw [enough,← h1,decide_eq_false h3];simp)] at hfn
   refine⟨i+1,⟨by omega,hfn⟩,by simp only;omega,?_⟩
   constructor<;>(repeat' (first|exact rfl|exact True.intro|apply And.intro))
   all_goals exact congrArg (fun n:Int=>D.v (.int .i64 n)) (show ((i+1:Nat):Int)+1=IntKind.i64.wrap ((i:Int)+1+1) by rw [wrap64 _ (by omega) (by omega)];omega)
 ·have hge:i=50:=by have:=of_decide_eq_false e;omega
  subst hge
  refine Eq.trans (b:=int (-1)) ?_ rfl
  rw [needI,← hfn,if_neg (by show ¬ 51≤50;omega)]
theorem Zkk {f s a:RV} (hf:f.z≤16777216) (hs:s.z≤16777216) (ha:a.z≤16777216) (k:K (int (needI s.q a.q f.q))):Ask 36 [rat f,rat s,rat a] K:=use (Zhr f s a hf hs ha) rfl k
def profE (f s a:Rat) (ticks:Int):Int:=
 if f< 0∨s≤0∨a≤0∨ticks< 0∨50< ticks then 1
 else if 50< needN s a f∨(0< ticks∧ticks< (needN s a f:Int)) then 19 else 0
def profN (f s a:Rat) (ticks:Int):Nat:=max (needN s a f) ticks.toNat
def profL (f s a:Rat) (ticks:Int):List Rat:=
 if profE f s a ticks=0 then (capsL s a (profN f s a ticks)).map fun c=>f / sumL (capsL s a (profN f s a ticks))*c else []
theorem ZjS {s a:Rat} (hs:0< s) (ha:0< a) {n k:Nat} (hk:0< k) (hkn:k≤n):0< capQ s a n k:=by
 unfold capQ minQ
 split
 ·exact hs
 ·have:(0:Rat)< ((min (k:Int) ((n:Int)+1 - (k:Int)):Int):Rat):=Rat.intCast_pos.2 (by omega)
  exact Rat.mul_pos ha this
theorem Zjx {l:List Rat} (h:∀ q,q∈l→0< q):∀ i,0< i→i≤l.length→0< sumL (l.take i):=by
 intro i
 induction i with
 |zero=>intro h0;omega
 |succ i ih=>
  intro _ hi
  have e:l[i]? =some l[i]:=List.getElem?_eq_getElem (by omega)
  rw [Zbt e]
  have h1:=h _ (List.getElem_mem (by omega:i< l.length))
  by_cases h0:i=0
  ·subst h0
   have:sumL (l.take 0)=0:=by simp [sumL]
   rw [this,Rat.zero_add];exact h1
  ·have h2:=ih (by omega) (by omega)
   grind
theorem Zaw {s a:Rat} (hs:0< s) (ha:0< a) {n:Nat} (hn:0< n):0< sumL (capsL s a n):=by
 have:=Zjx (l:=capsL s a n) (fun q hq=>by
  obtain⟨i,hi,rfl⟩:=List.mem_map.1 hq
  exact ZjS hs ha (by omega) (by have:=List.mem_range.1 hi;omega)) n hn (by rw [Zy];omega)
 rwa [List.take_of_length_le (by rw [Zy];omega)] at this
end
end Go.Proofs.YtbgokkfhohodgaaDoor.eng
