/- Joined by wip/bundle.py: XPoly XPolyA. -/
import Derived.Test.YtiekmbmgpachpaaGreatDoorGrpT
import Derived.Test.YtiekmbmgpachpaaGreatDoorWg
import Derived.Test.YtiekmbmgpachpaaGreatDoorGrpS
set_option maxRecDepth 100000
namespace Go.Proofs.YtiekmbmgpachpaaGreatDoor.poly
abbrev Pt:=Rat×Rat
def ori (a b c:Pt):Rat:=(b.1 - a.1)*(c.2 - a.2) - (b.2 - a.2)*(c.1 - a.1)
theorem ZkO (a b c:Pt):ori a b c=ori b c a:=by unfold ori;grind
theorem ZmW (a b c:Pt):ori b a c=- ori a b c:=by unfold ori;grind
theorem ZfA (a b:Pt):ori a b a=0:=by unfold ori;grind
theorem Zfz (a b:Pt):ori a b b=0:=by unfold ori;grind
theorem ZkN (j e a b c:Pt):ori j e b*ori j a c=ori j e a*ori j b c+ori j e c*ori j a b:=by unfold ori;grind
theorem ZeB (a b c x y p:Pt):ori a b c*ori x y p=ori b c p*ori x y a+ori c a p*ori x y b+ori a b p*ori x y c:=by unfold ori;grind
theorem ZK {a b:Rat} (ha:0< a) (h:0< a*b):0< b:=(Rat.mul_pos_iff_of_pos_left ha).1 h
theorem ZB {a b:Rat} (ha:0< a) (h:0≤a*b):0≤b:=by
 refine Rat.not_lt.1 fun hb=> ?_
 have:0< a*(-b):=Rat.mul_pos ha (by grind)
 grind
section
variable (P : Nat → Pt) (n : Nat)
def Ring:Prop:=∀ j k i,j< k→k< i→i< n→0< ori (P j) (P k) (P i)
def Edges:Prop:=∀ i k,i< n→2≤k→k< n→0< ori (P i) (P ((i+1) % n)) (P ((i+k) % n))
variable {P n}
theorem ZbX (h : Edges P n) : Ring P n := by
  intro j k i hjk hki hi
  -- along the corners behind j
  have he : ∀ d, 2 ≤ d → j + d < n → 0 < ori (P j) (P (j + 1)) (P (j + d)) := by
    intro d h2 hd
    have := h j d (by omega) h2 (by omega)
    rwa [Nat.mod_eq_of_lt (by omega), Nat.mod_eq_of_lt hd] at this
  have hc : ∀ d, 1 ≤ d → j + d + 1 < n → 0 < ori (P j) (P (j + d)) (P (j + d + 1)) := by
    intro d h1 hd
    have := h (j + d) (n - d) (by omega) (by omega) (by omega)
    rw [Nat.mod_eq_of_lt hd, show j + d + (n - d) = n + j by omega, Nat.add_mod_left, Nat.mod_eq_of_lt (by omega)] at this
    rwa [ZkO]
  obtain ⟨a, ha⟩ : ∃ a, k = j + a := ⟨k - j, by omega⟩
  obtain ⟨b, hb⟩ : ∃ b, i = j + (a + 1 + b) := ⟨i - k - 1, by omega⟩
  subst ha hb
  clear hki
  induction b with
  | zero => exact hc a (by omega) hi
  | succ b ih =>
    have ih := ih (by omega)
    have h3 := hc (a + 1 + b) (by omega) hi
    have h4 := he (a + 1 + b) (by omega) (by omega)
    have h5 := he (a + 1 + b + 1) (by omega) (by omega)
    by_cases h1 : a = 1
    · subst h1; exact h5
    · have h6 := he a (by omega) (by omega)
      have key := ZkN (P j) (P (j + 1)) (P (j + a)) (P (j + (a + 1 + b))) (P (j + (a + 1 + b + 1)))
      have hp : 0 < ori (P j) (P (j + 1)) (P (j + a)) * ori (P j) (P (j + (a + 1 + b))) (P (j + (a + 1 + b + 1))) := Rat.mul_pos h6 h3
      have hq : 0 < ori (P j) (P (j + 1)) (P (j + (a + 1 + b + 1))) * ori (P j) (P (j + a)) (P (j + (a + 1 + b))) := Rat.mul_pos h5 ih
      refine ZK h4 ?_
      show 0 < ori (P j) (P (j + 1)) (P (j + (a + 1 + b))) * ori (P j) (P (j + a)) (P (j + (a + 1 + b + 1)))
      rw [key]
      grind
theorem edges_all (h:Edges P n) {i m:Nat} (hi:i< n) (hm:m< n):0≤ori (P i) (P ((i+1) % n)) (P m):=by
 by_cases h1:m=i
 ·subst h1;rw [ZfA];exact Rat.le_refl
 ·by_cases h2:m=(i+1) % n
  ·rw [← h2,Zfz];exact Rat.le_refl
  ·have hk:∃ k,2≤k∧k< n∧(i+k) % n=m:=by
    by_cases h3:i< m
    ·refine⟨m - i,?_,by omega,by rw [show i+(m - i)=m by omega,Nat.mod_eq_of_lt hm]⟩
     have:m≠i+1:=fun e=>h2 (by rw [e,Nat.mod_eq_of_lt (by omega)])
     omega
    ·refine⟨m+n - i,?_,by omega,by rw [show i+(m+n - i)=n+m by omega,Nat.add_mod_left,Nat.mod_eq_of_lt hm]⟩
     have:¬ (i+1=n∧m=0):=fun ⟨e1,e2⟩=>h2 (by rw [e1,Nat.mod_self,e2])
     omega
   obtain⟨k,k1,k2,rfl⟩:=hk
   exact Rat.le_of_lt (h i k hi k1 k2)
def Inside (P:Nat→Pt) (n:Nat) (p:Pt):Prop:=∀ i,i< n→0≤ori (P i) (P ((i+1) % n)) p
def InTri (P:Nat→Pt) (p:Pt) (i:Nat):Prop:=0≤ori (P 0) (P (i - 1)) p∧0≤ori (P (i - 1)) (P i) p∧0≤ori (P i) (P 0) p
theorem Zjn (h:Edges P n) (hn:3≤n) (p:Pt):Inside P n p↔∃ i,2≤i∧i< n∧InTri P p i:=by
 constructor
 ·intro hin
  have hedge:∀ i,i+1< n→0≤ori (P i) (P (i+1)) p:=fun i hi=>by
   have:=hin i (by omega);rwa [Nat.mod_eq_of_lt hi] at this
  have hlast:0≤ori (P (n - 1)) (P 0) p:=by
   have:=hin (n - 1) (by omega);rwa [show n - 1+1=n by omega,Nat.mod_self] at this
  have go:∀ m,m+2< n→0≤ori (P (m+2)) (P 0) p→∃ i,2≤i∧i< n∧InTri P p i:=by
   intro m
   induction m with
   |zero=>intro hm h0;exact⟨2,by omega,hm,hedge 0 (by omega),hedge 1 (by omega),h0⟩
   |succ m ih=>
    intro hm h0
    by_cases h1:0≤ori (P (m+2)) (P 0) p
    ·exact ih (by omega) h1
    ·refine⟨m+1+2,by omega,hm,?_,hedge (m+2) (by omega),h0⟩
     show 0≤ori (P 0) (P (m+2)) p
     rw [ZmW]
     have:=Rat.not_le.1 h1
     grind
  exact go (n - 3) (by omega) (by rw [show n - 3+2=n - 1 by omega];exact hlast)
 ·rintro⟨i,h2,hi,t1,t2,t3⟩ e he
  have hT:=ZbX h 0 (i - 1) i (by omega) (by omega) hi
  have a0:=edges_all h he (show 0< n by omega)
  have a1:=edges_all h he (show i - 1< n by omega)
  have a2:=edges_all h he hi
  refine ZB hT ?_
  rw [ZeB]
  have:=Rat.mul_nonneg t2 a0
  have:=Rat.mul_nonneg t3 a1
  have:=Rat.mul_nonneg t1 a2
  grind
def cr (a b:Pt):Rat:=a.1*b.2 - a.2*b.1
def sumTo (f:Nat→Rat):Nat→Rat
 |0=>0
 |k+1=>sumTo f k+f k
def ringSum (P:Nat→Pt) (n:Nat):Rat:=sumTo (fun i=>cr (P i) (P ((i+1) % n))) n
end
end Go.Proofs.YtiekmbmgpachpaaGreatDoor.poly
namespace Go.Proofs.YtiekmbmgpachpaaGreatDoor.eng
open Go.RowKit num mem seg q held ratA ratB ratC ratD ratE vars ratF
section
variable {K : AV → Prop}
theorem ZjT (x y z t:RV)  (hx:x.z≤1073741824) (hy:y.z≤1073741824) (hz:z.z≤1073741824) (ht:t.z≤1073741824):Spec Tryz.prog Tab 104 [pair x y,pair z t] (rat (cn (x.q*z.q+y.q*t.q))):=by
 refine Zd Tryz.func104 rfl rfl Tryz.ntmps104 rfl (by kernel_rfl) rfl rfl ?_
 refine ZaL (x:=x) (y:=z) (by omega) (by omega) fun q9 h9 z9=> ?_
 simp only [cn_z] at z9
 refine ZaL (x:=y) (y:=t) (by omega) (by omega) fun q14 h14 z14=> ?_
 simp only [cn_z] at z14
 refine Zcj (x:=cn q9) (y:=cn q14) (by simp only [cn_z];omega) (by simp only [cn_z];omega) fun q15 h15 z15=> ?_
 simp only [cn_z] at z15
 simp only [cn_q] at h15
 refine⟨by kernel_rfl,?_⟩
 refine Eq.trans (b:=rat (cn q15)) ?_ rfl
 subst_vars;rfl
section
variable {x y z t : RV} 
theorem Zqo (hx:x.z≤1073741824) (hy:y.z≤1073741824) (hz:z.z≤1073741824) (ht:t.z≤1073741824) (k:∀ q,q=x.q*z.q+y.q*t.q→(cn q).z≤x.z+z.z+y.z+t.z+7→K (rat (cn q))):Ask 104 [pair x y,pair z t] K:=
 use (ZjT x y z t  hx hy hz ht) rfl (k _ rfl (by rw [cn_z];have:=x.z1;have:=z.z1;have:=ZT x.q z.q;have:=y.z1;have:=t.z1;have:=ZT y.q t.q;have:=Z8 (x.q*z.q) (y.q*t.q);omega))
end
theorem Zgh (x y z t:RV)  (hx:x.z≤1073741824) (hy:y.z≤1073741824) (hz:z.z≤1073741824) (ht:t.z≤1073741824):Spec Tryz.prog Tab 58 [pair x y,pair z t] (rat (cn (x.q*t.q - y.q*z.q))):=by
 refine Zd Tryz.func58 rfl rfl Tryz.ntmps58 rfl (by kernel_rfl) rfl rfl ?_
 refine ZaL (x:=x) (y:=t) (by omega) (by omega) fun q9 h9 z9=> ?_
 simp only [cn_z] at z9
 refine ZaL (x:=y) (y:=z) (by omega) (by omega) fun q14 h14 z14=> ?_
 simp only [cn_z] at z14
 refine Zjk (x:=cn q9) (y:=cn q14) (by simp only [cn_z];omega) (by simp only [cn_z];omega) fun q15 h15 z15=> ?_
 simp only [cn_z] at z15
 simp only [cn_q] at h15
 refine⟨by kernel_rfl,?_⟩
 refine Eq.trans (b:=rat (cn q15)) ?_ rfl
 subst_vars;rfl
section
variable {x y z t : RV} 
theorem Zh5 (hx:x.z≤1073741824) (hy:y.z≤1073741824) (hz:z.z≤1073741824) (ht:t.z≤1073741824) (k:∀ q,q=x.q*t.q - y.q*z.q→(cn q).z≤x.z+t.z+y.z+z.z+7→K (rat (cn q))):Ask 58 [pair x y,pair z t] K:=
 use (Zgh x y z t  hx hy hz ht) rfl (k _ rfl (by rw [cn_z];have:=x.z1;have:=t.z1;have:=ZT x.q t.q;have:=y.z1;have:=z.z1;have:=ZT y.q z.q;have:=Zby (x.q*t.q) (y.q*z.q);omega))
end
section
variable {x y z t : RV} 
end
section
variable {x y z t : RV} 
end
theorem Zla (x y z t u v:RV)  (hx:x.z≤67108864) (hy:y.z≤67108864) (hz:z.z≤67108864) (ht:t.z≤67108864) (hu:u.z≤67108864) (hv:v.z≤67108864):Spec Tryz.prog Tab 64 [pair x y,pair z t,pair u v] (int (sgnQ ((z.q - x.q)*(v.q - y.q) - (t.q - y.q)*(u.q - x.q)))):=by
 refine Zd Tryz.func64 rfl rfl Tryz.ntmps64 rfl (by kernel_rfl) rfl rfl ?_
 refine Zh4 (x:=z) (y:=t) (z:=x) (t:=y) (by omega) (by omega) (by omega) (by omega) (fun p9 q9 hk_9_2 hk_9_3 hk_9_4 hk_9_5=> ?_)
 simp only [cn_z] at hk_9_4
 simp only [cn_z] at hk_9_5
 refine Zh4 (x:=u) (y:=v) (z:=x) (t:=y) (by omega) (by omega) (by omega) (by omega) (fun p12 q12 hk_12_2 hk_12_3 hk_12_4 hk_12_5=> ?_)
 simp only [cn_z] at hk_12_4
 simp only [cn_z] at hk_12_5
 refine Zh5 (x:=cn p9) (y:=cn q9) (z:=cn p12) (t:=cn q12) (by simp only [cn_z];omega) (by simp only [cn_z];omega) (by simp only [cn_z];omega) (by simp only [cn_z];omega) (fun q13 hk_13_1 hk_13_2=> ?_)
 try simp only [cn_q] at hk_13_1
 simp only [cn_z] at hk_13_2
 refine Zdc (x:=cn q13) (by simp only [cn_z];omega) fun n14 h14=> ?_
 simp only [cn_q] at h14
 refine⟨by kernel_rfl,?_⟩
 refine Eq.trans (b:=int n14) ?_ rfl
 subst_vars;rfl
section
variable {x y z t u v : RV} 
theorem Zn8 (hx:x.z≤67108864) (hy:y.z≤67108864) (hz:z.z≤67108864) (ht:t.z≤67108864) (hu:u.z≤67108864) (hv:v.z≤67108864) (k:∀ n,n=sgnQ ((z.q - x.q)*(v.q - y.q) - (t.q - y.q)*(u.q - x.q))→K (int n)):Ask 64 [pair x y,pair z t,pair u v] K:=
 use (Zla x y z t u v  hx hy hz ht hu hv) rfl (k _ rfl)
end
section
variable {x y z t u v : RV} 
end
def pts (l:List (RV×RV)) (i:Nat):poly.Pt:=(((l[i]?).getD (z0,z0)).1.q,((l[i]?).getD (z0,z0)).2.q)
theorem Za4 {l:List (RV×RV)} {i:Nat} {p:RV×RV} (h:l[i]? =some p):pts l i=(p.1.q,p.2.q):=by simp [pts,h]
open Classical in
noncomputable def convE (m:Int) (l:List (RV×RV)):Int:=if m< (l.length:Int) then 2 else if l.length< 3 then 3 else if poly.Edges (pts l) l.length then 0 else 3
theorem Zpu {m:Int} {l:List (RV×RV)} (h:m< (l.length:Int)):convE m l=2:=if_pos h
theorem Zpt {m:Int} {l:List (RV×RV)} (h:¬ m< (l.length:Int)) (h2:l.length< 3):convE m l=3:=by rw [convE,if_neg h,if_pos h2]
theorem Zpv {m:Int} {l:List (RV×RV)} (h:¬ m< (l.length:Int)) (h2:¬ l.length< 3) (h3:poly.Edges (pts l) l.length):convE m l=0:=by rw [convE,if_neg h,if_neg h2,if_pos h3]
theorem Zps {m:Int} {l:List (RV×RV)} (h:¬ m< (l.length:Int)) (h2:¬ l.length< 3) (h3:¬ poly.Edges (pts l) l.length):convE m l=3:=by rw [convE,if_neg h,if_neg h2,if_neg h3]
theorem Z6 {m:Int} {l:List (RV×RV)}:convE m l=0↔¬ m< (l.length:Int)∧¬ l.length< 3∧poly.Edges (pts l) l.length:=by
 unfold convE
 by_cases h1:m< (l.length:Int)
 ·simp [h1]
 ·by_cases h2:l.length< 3
  ·simp [h1,h2]
  ·by_cases h3:poly.Edges (pts l) l.length<;>simp [h1,h2,h3]
set_option maxHeartbeats 400000 in
theorem ZjF (l : List (RV × RV)) (m : Int) (hl : ∀ p, p ∈ l → p.1.z ≤ 67108864 ∧ p.2.z ≤ 67108864) (hn : l.length ≤ 1073741824) : Spec Tryz.prog Tab 89 [.val (.one (.d (.list (List.map rdv l)))), int m] (int (convE m l)) := by
  have hL : (List.map rdv l).length = l.length := List.length_map ..
  refine Zd Tryz.func89 rfl rfl Tryz.ntmps89 rfl (by kernel_rfl) rfl rfl ?_
  refine ⟨fun e1 => ?_, fun e1 => ?_⟩
  · have f11 : ((List.map rdv l).length : Int) > m := of_decide_eq_true e1
    refine Eq.trans (b := int 2) ?_ rfl
    rw [Zpu (by omega)]
  · have f11 : ¬ (((List.map rdv l).length : Int) > m) := of_decide_eq_false e1
    refine ⟨fun e2 => ?_, fun e2 => ?_⟩
    · have f15 : ((List.map rdv l).length : Int) < 3 := of_decide_eq_true e2
      refine Eq.trans (b := int 3) ?_ rfl
      rw [Zpt (by omega) (by omega)]
    · have f15 : ¬ (((List.map rdv l).length : Int) < 3) := of_decide_eq_false e2
      refine ⟨Nat, fun i => [(0, .val (.one (.d (.list (List.map rdv l))))), (5, int ((List.map rdv l).length : Int)), (18, .val (.one (.d (.list (List.map rdv l))))), (19, int ((List.map rdv l).length : Int)), (20, int (i : Int))],
        fun i => [], fun i => i ≤ l.length ∧ ∀ i' k, i' < i → 2 ≤ k → k < l.length → 0 < poly.ori (pts l i') (pts l ((i' + 1) % l.length)) (pts l ((i' + k) % l.length)), fun i => l.length - i, 0, ?_, ⟨Nat.zero_le _, fun i' k h => absurd h (Nat.not_lt_zero _)⟩, fun i hs => ?_⟩
      · constructor <;> (repeat' (first | exact rfl | exact True.intro | exact ⟨_, _, rfl⟩ | exact (by decide) | apply And.intro))
        all_goals first | exact congrArg (fun n : Int => D.v (.int .i64 n)) (by omega) | exact congrArg (fun n : Int => D.v (.int .i64 n)) (by rw [wrap64 _ (by omega) (by omega)]; omega) | (simp; done)
      obtain ⟨hi, hall⟩ := hs
      refine ⟨fun e3 => ?_, fun e3 => ?_⟩
      · have f21 : (i : Int) < ((List.map rdv l).length : Int) := of_decide_eq_true e3
        obtain ⟨x23, hx23⟩ : ∃ vv, l[i]? = some vv := ⟨_, List.getElem?_eq_getElem (by first | omega | exact Nat.mod_lt _ (by omega))⟩
        have hzx23 := hl x23 (List.mem_of_getElem? hx23)
        have hpx23 := Za4 hx23
        refine k_ix i [D.v (.bool x23.1.s), D.v (.string x23.1.a), D.v (.string x23.1.d), D.v (.bool x23.2.s), D.v (.string x23.2.a), D.v (.string x23.2.d)] (by first | rfl | omega | (rw [wrap64 _ (by omega) (by omega)]; omega)) (Zj hx23) rfl ?_
        refine ⟨Nat, fun k => [(0, .val (.one (.d (.list (List.map rdv l))))), (5, int ((List.map rdv l).length : Int)), (6, int (i : Int)), (7, .val (.one (.ptr 7 0))), (8, int (k : Int)), (18, .val (.one (.d (.list (List.map rdv l))))), (19, int ((List.map rdv l).length : Int)), (20, int (i : Int))],
          fun k => [(7, .var 36 [.d (.v (.bool x23.1.s)), .d (.v (.string x23.1.a)), .d (.v (.string x23.1.d)), .d (.v (.bool x23.2.s)), .d (.v (.string x23.2.a)), .d (.v (.string x23.2.d))])], fun k => 2 ≤ k ∧ ∀ k', 2 ≤ k' → k' < k → k' < l.length → 0 < poly.ori (pts l i) (pts l ((i + 1) % l.length)) (pts l ((i + k') % l.length)), fun k => l.length - k, 2, ?_, ⟨Nat.le_refl _, fun k' h1 h2 => by omega⟩, fun k hs => ?_⟩
        · constructor <;> (repeat' (first | exact rfl | exact True.intro | exact ⟨_, _, rfl⟩ | exact (by decide) | apply And.intro))
          all_goals first | exact congrArg (fun n : Int => D.v (.int .i64 n)) (by omega) | exact congrArg (fun n : Int => D.v (.int .i64 n)) (by rw [wrap64 _ (by omega) (by omega)]; omega) | (simp; done)
        obtain ⟨hk, hin0⟩ := hs
        refine ⟨fun e4 => ?_, fun e4 => ?_⟩
        · have f27 : (k : Int) < ((List.map rdv l).length : Int) := of_decide_eq_true e4
          refine Zdd (i + 1) l.length (by first | rfl | omega | (rw [wrap64 _ (by omega) (by omega)]; omega)) (by first | rfl | omega | (rw [wrap64 _ (by omega) (by omega)]; omega)) (by omega) ?_
          obtain ⟨x36, hx36⟩ : ∃ vv, l[((i + 1) % l.length)]? = some vv := ⟨_, List.getElem?_eq_getElem (by first | omega | exact Nat.mod_lt _ (by omega))⟩
          have hzx36 := hl x36 (List.mem_of_getElem? hx36)
          have hpx36 := Za4 hx36
          refine k_ix ((i + 1) % l.length) [D.v (.bool x36.1.s), D.v (.string x36.1.a), D.v (.string x36.1.d), D.v (.bool x36.2.s), D.v (.string x36.2.a), D.v (.string x36.2.d)] (by first | rfl | omega | (rw [wrap64 _ (by omega) (by omega)]; omega)) (Zj hx36) rfl ?_
          refine Zdd (i + k) l.length (by first | rfl | omega | (rw [wrap64 _ (by omega) (by omega)]; omega)) (by first | rfl | omega | (rw [wrap64 _ (by omega) (by omega)]; omega)) (by omega) ?_
          obtain ⟨x44, hx44⟩ : ∃ vv, l[((i + k) % l.length)]? = some vv := ⟨_, List.getElem?_eq_getElem (by first | omega | exact Nat.mod_lt _ (by omega))⟩
          have hzx44 := hl x44 (List.mem_of_getElem? hx44)
          have hpx44 := Za4 hx44
          refine k_ix ((i + k) % l.length) [D.v (.bool x44.1.s), D.v (.string x44.1.a), D.v (.string x44.1.d), D.v (.bool x44.2.s), D.v (.string x44.2.a), D.v (.string x44.2.d)] (by first | rfl | omega | (rw [wrap64 _ (by omega) (by omega)]; omega)) (Zj hx44) rfl ?_
          refine Zn8 (x := x23.1) (y := x23.2) (z := x36.1) (t := x36.2) (u := x44.1) (v := x44.2) (by omega) (by omega) (by omega) (by omega) (by omega) (by omega) (fun n46 hk_46_1 => ?_)
          refine ⟨by kernel_rfl, ?_⟩
          refine ⟨fun e5 => ?_, fun e5 => ?_⟩
          · have f47 : (x36.1.q - x23.1.q) * (x44.2.q - x23.2.q) - (x36.2.q - x23.2.q) * (x44.1.q - x23.1.q) ≤ 0 := (ZnP hk_46_1).1 (of_decide_eq_true e5)
            refine Eq.trans (b := int 3) ?_ rfl
            rw [Zps (by omega) (by omega) (fun hE => by have := hE i k (by omega) hk (by omega); rw [hpx23, hpx36, hpx44] at this; exact absurd f47 (Rat.not_le.2 this))]
          · have f47 : ¬ ((x36.1.q - x23.1.q) * (x44.2.q - x23.2.q) - (x36.2.q - x23.2.q) * (x44.1.q - x23.1.q) ≤ 0) := fun hh => of_decide_eq_false e5 ((ZnP hk_46_1).2 hh)
            have hpos : 0 < poly.ori (pts l i) (pts l ((i + 1) % l.length)) (pts l ((i + k) % l.length)) := by rw [hpx23, hpx36, hpx44]; exact Rat.not_le.1 f47
            refine ⟨k + 1, ⟨by omega, fun k' h1 h2 h3 => by
                      by_cases e : k' = k
                      · subst e; exact hpos
                      · exact hin0 k' h1 (by omega) h3⟩, by simp only; omega, ?_⟩
            constructor <;> (repeat' (first | exact rfl | exact True.intro | apply And.intro))
            all_goals first
              | exact congrArg (fun n : Int => D.v (.int .i64 n)) (by rw [wrap64 _ (by omega) (by omega)]; omega)
              | exact congrArg (fun n : Int => D.v (.int .i64 n)) (by omega)
        · have f27 : ¬ ((k : Int) < ((List.map rdv l).length : Int)) := of_decide_eq_false e4
          have hin : ∀ k', 2 ≤ k' → k' < l.length → 0 < poly.ori (pts l i) (pts l ((i + 1) % l.length)) (pts l ((i + k') % l.length)) := fun k' h1 h2 => hin0 k' h1 (by omega) h2
          refine ⟨i + 1, ⟨by omega, fun i' k h1 h2 h3 => by
                by_cases e : i' = i
                · subst e; exact hin k h2 h3
                · exact hall i' k (by omega) h2 h3⟩, by simp only; omega, ?_⟩
          constructor <;> (repeat' (first | exact rfl | exact True.intro | apply And.intro))
          all_goals first
            | exact congrArg (fun n : Int => D.v (.int .i64 n)) (by rw [wrap64 _ (by omega) (by omega)]; omega)
            | exact congrArg (fun n : Int => D.v (.int .i64 n)) (by omega)
      · have f21 : ¬ ((i : Int) < ((List.map rdv l).length : Int)) := of_decide_eq_false e3
        refine Eq.trans (b := int 0) ?_ rfl
        rw [Zpv (by omega) (by omega) (fun i' k h1 h2 h3 => hall i' k (by omega) h2 h3)]
theorem Zhn (l:List (RV×RV)) (hl:∀ p,p∈l→p.1.z≤67108864∧p.2.z≤67108864) (hn:l.length≤1073741824):Spec Tryz.prog Tab 46 [.val (.one (.d (.list (List.map rdv l))))] (int (convE 64 l)):=by
 refine Zd Tryz.func46 rfl rfl Tryz.ntmps46 rfl (by kernel_rfl) rfl rfl ?_
 refine use (ZjF l (64) hl hn) rfl ?_
 refine Eq.trans (b:=int (convE 64 l)) ?_ rfl
 subst_vars;rfl
theorem ZcI {l:List (RV×RV)} (hl:∀ p,p∈l→p.1.z≤67108864∧p.2.z≤67108864) (hn:l.length≤1073741824) (k:∀ n,n=convE 64 l→K (int n)):Ask 46 [vecs l] K:=use (Zhn l hl hn) rfl (k _ rfl)
open Classical in
noncomputable def hasP (l:List (RV×RV)) (x y:RV):Bool:=decide (convE 64 l=0∧poly.Inside (pts l) l.length (x.q,y.q))
open Classical in
theorem Zog {l:List (RV×RV)} {x y:RV} (h:convE 64 l=0∧poly.Inside (pts l) l.length (x.q,y.q)):hasP l x y=true:=by unfold hasP;exact decide_eq_true h
open Classical in
theorem Zoh {l:List (RV×RV)} {x y:RV} (h:¬ (convE 64 l=0∧poly.Inside (pts l) l.length (x.q,y.q))):hasP l x y=false:=by unfold hasP;exact decide_eq_false h
theorem ZkK (l:List (RV×RV)) (x y:RV) (hl:∀ p,p∈l→p.1.z≤67108864∧p.2.z≤67108864) (hn:l.length≤1073741824) (hx:x.z≤67108864) (hy:y.z≤67108864):Spec Tryz.prog Tab 27 [.val (.one (.d (.list (List.map rdv l)))),pair x y] (bool (hasP l x y)):=by
 have hL:(List.map rdv l).length=l.length:=List.length_map ..
 refine Zd Tryz.func27 rfl rfl Tryz.ntmps27 rfl (by kernel_rfl) rfl rfl ?_
 refine ZcI (l:=l) (by assumption) (by omega) (fun n8 hk_8_1=> ?_)
 refine⟨fun e1=> ?_,fun e1=> ?_⟩
 ·have f9:n8≠0:=Zhe e1
  refine Eq.trans (b:=bool false) ?_ rfl
  rw [Zoh fun h=>by omega]
 ·have f9:¬ (n8≠0):=fun hh=>hh (Zhf e1)
  have hc:convE 64 l=0:=by omega
  obtain⟨_,c2,_⟩:=Z6.1 hc
  refine⟨Nat,fun i=> [(0,.val (.one (.d (.list (List.map rdv l))))),(3,.val (.one (.ptr 3 0))),(10,.val (.one (.d (.list (List.map rdv l))))),(11,int ((List.map rdv l).length:Int)),(12,int (i:Int))],
   fun i=> [(3,.var 36 [.d (.v (.bool x.s)),.d (.v (.string x.a)),.d (.v (.string x.d)),.d (.v (.bool y.s)),.d (.v (.string y.a)),.d (.v (.string y.d))])],fun i=>i≤l.length∧∀ i',i'< i→0≤poly.ori (pts l i') (pts l ((i'+1) % l.length)) (x.q,y.q),fun i=>l.length - i,0,?_,⟨Nat.zero_le _,fun i' h=>absurd h (Nat.not_lt_zero _)⟩,fun i hs=> ?_⟩
  ·constructor<;>(repeat' (first|exact rfl|exact True.intro|exact⟨_,_,rfl⟩|exact(by decide)|apply And.intro))
   all_goals first|exact congrArg (fun n:Int=>D.v (.int .i64 n)) (by omega)|exact congrArg (fun n:Int=>D.v (.int .i64 n)) (by rw [wrap64 _ (by omega) (by omega)];omega)|(simp;done)
  obtain⟨hi,h1⟩:=hs
  refine⟨fun e2=> ?_,fun e2=> ?_⟩
  ·have f13:(i:Int)< ((List.map rdv l).length:Int):=of_decide_eq_true e2
   obtain⟨x15,hx15⟩:∃ vv,l[i]? =some vv:=⟨_,List.getElem?_eq_getElem (by first|omega|exact Nat.mod_lt _ (by omega))⟩
   have hzx15:=hl x15 (List.mem_of_getElem? hx15)
   have hpx15:=Za4 hx15
   refine k_ix i [D.v (.bool x15.1.s),D.v (.string x15.1.a),D.v (.string x15.1.d),D.v (.bool x15.2.s),D.v (.string x15.2.a),D.v (.string x15.2.d)] (by first|rfl|omega|(rw [wrap64 _ (by omega) (by omega)];omega)) (Zj hx15) rfl ?_
   refine Zdd (i+1) l.length (by first|rfl|omega|(rw [wrap64 _ (by omega) (by omega)];omega)) (by first|rfl|omega|(rw [wrap64 _ (by omega) (by omega)];omega)) (by omega) ?_
   obtain⟨x24,hx24⟩:∃ vv,l[((i+1) % l.length)]? =some vv:=⟨_,List.getElem?_eq_getElem (by first|omega|exact Nat.mod_lt _ (by omega))⟩
   have hzx24:=hl x24 (List.mem_of_getElem? hx24)
   have hpx24:=Za4 hx24
   refine k_ix ((i+1) % l.length) [D.v (.bool x24.1.s),D.v (.string x24.1.a),D.v (.string x24.1.d),D.v (.bool x24.2.s),D.v (.string x24.2.a),D.v (.string x24.2.d)] (by first|rfl|omega|(rw [wrap64 _ (by omega) (by omega)];omega)) (Zj hx24) rfl ?_
   refine Zn8 (x:=x15.1) (y:=x15.2) (z:=x24.1) (t:=x24.2) (u:=x) (v:=y) (by omega) (by omega) (by omega) (by omega) (by omega) (by omega) (fun n27 hk_27_1=> ?_)
   refine⟨by kernel_rfl,?_⟩
   refine⟨fun e3=> ?_,fun e3=> ?_⟩
   ·have f28:(x24.1.q - x15.1.q)*(y.q - x15.2.q) - (x24.2.q - x15.2.q)*(x.q - x15.1.q)< 0:=(ZnO hk_27_1).1 (of_decide_eq_true e3)
    refine Eq.trans (b:=bool false) ?_ rfl
    rw [Zoh fun h=>by have:=h.2 i (by omega);rw [hpx15,hpx24] at this;exact absurd f28 (Rat.not_lt.2 this)]
   ·have f28:¬ ((x24.1.q - x15.1.q)*(y.q - x15.2.q) - (x24.2.q - x15.2.q)*(x.q - x15.1.q)< 0):=fun hh=>of_decide_eq_false e3 ((ZnO hk_27_1).2 hh)
    have hpos:0≤poly.ori (pts l i) (pts l ((i+1) % l.length)) (x.q,y.q):=by rw [hpx15,hpx24];exact Rat.not_lt.1 f28
    refine⟨i+1,⟨by omega,fun i' g=>by
     by_cases e:i'=i
     ·subst e;exact hpos
     ·exact h1 i' (by omega)⟩,by simp only;omega,?_⟩
    constructor<;>(repeat' (first|exact rfl|exact True.intro|apply And.intro))
    all_goals first
     |exact congrArg (fun n:Int=>D.v (.int .i64 n)) (by rw [wrap64 _ (by omega) (by omega)];omega)
     |exact congrArg (fun n:Int=>D.v (.int .i64 n)) (by omega)
  ·have f13:¬ ((i:Int)< ((List.map rdv l).length:Int)):=of_decide_eq_false e2
   refine Eq.trans (b:=bool true) ?_ rfl
   rw [Zog ⟨hc,fun i' g=>h1 i' (by omega)⟩]
theorem Zqy {l:List (RV×RV)} (hl:∀ p,p∈l→p.1.z≤67108864∧p.2.z≤67108864) (hn:l.length≤1073741824) {x y:RV} (hx:x.z≤67108864) (hy:y.z≤67108864) (k:∀ b,b=hasP l x y→K (bool b)):Ask 27 [vecs l,pair x y] K:=use (ZkK l x y hl hn hx hy) rfl (k _ rfl)
end
end Go.Proofs.YtiekmbmgpachpaaGreatDoor.eng
