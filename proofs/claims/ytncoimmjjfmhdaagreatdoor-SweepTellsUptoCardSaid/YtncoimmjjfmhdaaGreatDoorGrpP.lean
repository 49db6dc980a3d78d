/- Joined by wip/bundle.py: XPoly XPolyA. -/
import Derived.Test.YtncoimmjjfmhdaaGreatDoorGrpT
import Derived.Test.YtncoimmjjfmhdaaGreatDoorWg
import Derived.Test.YtncoimmjjfmhdaaGreatDoorGrpS
set_option maxRecDepth 100000
namespace Go.Proofs.YtncoimmjjfmhdaaGreatDoor.poly
abbrev Pt:=Rat×Rat
def ori (a b c:Pt):Rat:=(b.1 - a.1)*(c.2 - a.2) - (b.2 - a.2)*(c.1 - a.1)
theorem Zer (a b c:Pt):ori a b c=ori b c a:=by unfold ori;grind
theorem Zoy (a b:Pt):ori a b a=0:=by unfold ori;grind
theorem Zox (a b:Pt):ori a b b=0:=by unfold ori;grind
theorem Zj4 (j e a b c:Pt):ori j e b*ori j a c=ori j e a*ori j b c+ori j e c*ori j a b:=by unfold ori;grind
theorem Zix {a b:Rat} (ha:0< a) (h:0< a*b):0< b:=(Rat.mul_pos_iff_of_pos_left ha).1 h
theorem Zev {a b:Rat} (ha:0< a) (h:0≤a*b):0≤b:=by
 refine Rat.not_lt.1 fun hb=> ?_
 have:0< a*(-b):=Rat.mul_pos ha (by grind)
 grind
section
variable (P : Nat → Pt) (n : Nat)
def Ring:Prop:=∀ j k i,j< k→k< i→i< n→0< ori (P j) (P k) (P i)
def Edges:Prop:=∀ i k,i< n→2≤k→k< n→0< ori (P i) (P ((i+1) % n)) (P ((i+k) % n))
variable {P n}
theorem edges_of_ring (h:Ring P n):Edges P n:=by
 intro i k hi h2 hk
 by_cases h1:i+1< n
 ·rw [Nat.mod_eq_of_lt h1]
  by_cases h3:i+k< n
  ·rw [Nat.mod_eq_of_lt h3]
   exact h i (i+1) (i+k) (by omega) (by omega) h3
  ·have e:(i+k) % n=i+k - n:=by rw [Nat.mod_eq_sub_mod (by omega),Nat.mod_eq_of_lt (by omega)]
   rw [e,Zer,Zer]
   exact h (i+k - n) i (i+1) (by omega) (by omega) h1
 ·have e1:(i+1) % n=0:=by rw [show i+1=n by omega,Nat.mod_self]
  have e2:(i+k) % n=k - 1:=by
   rw [show i+k=n+(k - 1) by omega,Nat.add_mod_left,Nat.mod_eq_of_lt (by omega)]
  rw [e1,e2,Zer]
  exact h 0 (k - 1) i (by omega) (by omega) hi
theorem ring_of_edges (h : Edges P n) : Ring P n := by
  intro j k i hjk hki hi
  -- along the corners behind j
  have he : ∀ d, 2 ≤ d → j + d < n → 0 < ori (P j) (P (j + 1)) (P (j + d)) := by
    intro d h2 hd
    have := h j d (by omega) h2 (by omega)
    rwa [Nat.mod_eq_of_lt (by omega), Nat.mod_eq_of_lt hd] at this
  have hc : ∀ d, 1 ≤ d → j + d + 1 < n → 0 < ori (P j) (P (j + d)) (P (j + d + 1)) := by
    intro d h1 hd
    have := h (j + d) (n - d) (by omega) (by omega) (by omega)
    rw [Nat.mod_eq_of_lt hd, show j + d + (n - d) = n + j by omega, Nat.add_mod_left, Nat.mod_eq_of_lt (by omega)] at this
    rwa [Zer]
  obtain ⟨a, ha⟩ : ∃ a, k = j + a := ⟨k - j, by omega⟩
  obtain ⟨b, hb⟩ : ∃ b, i = j + (a + 1 + b) := ⟨i - k - 1, by omega⟩
  subst ha hb
  clear hki
  induction b with
  | zero => exact hc a (by omega) hi
  | succ b ih =>
    have ih := ih (by omega)
    have h3 := hc (a + 1 + b) (by omega) hi
    have h4 := he (a + 1 + b) (by omega) (by omega)
    have h5 := he (a + 1 + b + 1) (by omega) (by omega)
    by_cases h1 : a = 1
    · subst h1; exact h5
    · have h6 := he a (by omega) (by omega)
      have key := Zj4 (P j) (P (j + 1)) (P (j + a)) (P (j + (a + 1 + b))) (P (j + (a + 1 + b + 1)))
      have hp : 0 < ori (P j) (P (j + 1)) (P (j + a)) * ori (P j) (P (j + (a + 1 + b))) (P (j + (a + 1 + b + 1))) := Rat.mul_pos h6 h3
      have hq : 0 < ori (P j) (P (j + 1)) (P (j + (a + 1 + b + 1))) * ori (P j) (P (j + a)) (P (j + (a + 1 + b))) := Rat.mul_pos h5 ih
      refine Zix h4 ?_
      show 0 < ori (P j) (P (j + 1)) (P (j + (a + 1 + b))) * ori (P j) (P (j + a)) (P (j + (a + 1 + b + 1)))
      rw [key]
      grind
def cr (a b:Pt):Rat:=a.1*b.2 - a.2*b.1
def sumTo (f:Nat→Rat):Nat→Rat
 |0=>0
 |k+1=>sumTo f k+f k
def ringSum (P:Nat→Pt) (n:Nat):Rat:=sumTo (fun i=>cr (P i) (P ((i+1) % n))) n
end
end Go.Proofs.YtncoimmjjfmhdaaGreatDoor.poly
namespace Go.Proofs.YtncoimmjjfmhdaaGreatDoor.eng
open Go.RowKit num mem seg q held ratA ratB ratC ratD ratE vars ratF
section
variable {K : AV → Prop}
section
variable {x y z t : RV} 
end
theorem Zf3 (x y z t:RV)  (hx:x.z≤1073741824) (hy:y.z≤1073741824) (hz:z.z≤1073741824) (ht:t.z≤1073741824):Spec Tryz.prog Tab 79 [pair x y,pair z t] (rat (cn (x.q*t.q - y.q*z.q))):=by
 refine Zh Tryz.func79 rfl rfl Tryz.ntmps79 rfl (by kernel_rfl) rfl rfl ?_
 refine Za2 (x:=x) (y:=t) (by omega) (by omega) fun q9 h9 z9=> ?_
 simp only [cn_z] at z9
 refine Za2 (x:=y) (y:=z) (by omega) (by omega) fun q14 h14 z14=> ?_
 simp only [cn_z] at z14
 refine ZbP (x:=cn q9) (y:=cn q14) (by simp only [cn_z];omega) (by simp only [cn_z];omega) fun q15 h15 z15=> ?_
 simp only [cn_z] at z15
 simp only [cn_q] at h15
 refine⟨by kernel_rfl,?_⟩
 refine Eq.trans (b:=rat (cn q15)) ?_ rfl
 subst_vars;rfl
section
variable {x y z t : RV} 
theorem ZhE (hx:x.z≤1073741824) (hy:y.z≤1073741824) (hz:z.z≤1073741824) (ht:t.z≤1073741824) (k:∀ q,q=x.q*t.q - y.q*z.q→(cn q).z≤x.z+t.z+y.z+z.z+7→K (rat (cn q))):Ask 79 [pair x y,pair z t] K:=
 use (Zf3 x y z t  hx hy hz ht) rfl (k _ rfl (by rw [cn_z];have:=x.z1;have:=t.z1;have:=ZJ x.q t.q;have:=y.z1;have:=z.z1;have:=ZJ y.q z.q;have:=Zag (x.q*t.q) (y.q*z.q);omega))
end
theorem Zlz (x y z t:RV)  (hx:x.z≤1073741824) (hy:y.z≤1073741824) (hz:z.z≤1073741824) (ht:t.z≤1073741824):Spec Tryz.prog Tab 104 [pair x y,pair z t] (rat (cn (x.q*z.q+y.q*t.q))):=by
 refine Zh Tryz.func104 rfl rfl Tryz.ntmps104 rfl (by kernel_rfl) rfl rfl ?_
 refine Za2 (x:=x) (y:=z) (by omega) (by omega) fun q9 h9 z9=> ?_
 simp only [cn_z] at z9
 refine Za2 (x:=y) (y:=t) (by omega) (by omega) fun q14 h14 z14=> ?_
 simp only [cn_z] at z14
 refine ZbQ (x:=cn q9) (y:=cn q14) (by simp only [cn_z];omega) (by simp only [cn_z];omega) fun q15 h15 z15=> ?_
 simp only [cn_z] at z15
 simp only [cn_q] at h15
 refine⟨by kernel_rfl,?_⟩
 refine Eq.trans (b:=rat (cn q15)) ?_ rfl
 subst_vars;rfl
section
variable {x y z t : RV} 
theorem Zm3 (hx:x.z≤1073741824) (hy:y.z≤1073741824) (hz:z.z≤1073741824) (ht:t.z≤1073741824) (k:∀ q,q=x.q*z.q+y.q*t.q→(cn q).z≤x.z+z.z+y.z+t.z+7→K (rat (cn q))):Ask 104 [pair x y,pair z t] K:=
 use (Zlz x y z t  hx hy hz ht) rfl (k _ rfl (by rw [cn_z];have:=x.z1;have:=z.z1;have:=ZJ x.q z.q;have:=y.z1;have:=t.z1;have:=ZJ y.q t.q;have:=ZU (x.q*z.q) (y.q*t.q);omega))
end
theorem ZgY (x y z t:RV)  (hx:x.z≤1073741824) (hy:y.z≤1073741824) (hz:z.z≤1073741824) (ht:t.z≤1073741824):Spec Tryz.prog Tab 91 [pair x y,pair z t] (rat (cn (x.q*t.q - y.q*z.q))):=by
 refine Zh Tryz.func91 rfl rfl Tryz.ntmps91 rfl (by kernel_rfl) rfl rfl ?_
 refine Za2 (x:=x) (y:=t) (by omega) (by omega) fun q9 h9 z9=> ?_
 simp only [cn_z] at z9
 refine Za2 (x:=y) (y:=z) (by omega) (by omega) fun q14 h14 z14=> ?_
 simp only [cn_z] at z14
 refine ZbP (x:=cn q9) (y:=cn q14) (by simp only [cn_z];omega) (by simp only [cn_z];omega) fun q15 h15 z15=> ?_
 simp only [cn_z] at z15
 simp only [cn_q] at h15
 refine⟨by kernel_rfl,?_⟩
 refine Eq.trans (b:=rat (cn q15)) ?_ rfl
 subst_vars;rfl
section
variable {x y z t : RV} 
theorem Zmn (hx:x.z≤1073741824) (hy:y.z≤1073741824) (hz:z.z≤1073741824) (ht:t.z≤1073741824) (k:∀ q,q=x.q*t.q - y.q*z.q→(cn q).z≤x.z+t.z+y.z+z.z+7→K (rat (cn q))):Ask 91 [pair x y,pair z t] K:=
 use (ZgY x y z t  hx hy hz ht) rfl (k _ rfl (by rw [cn_z];have:=x.z1;have:=t.z1;have:=ZJ x.q t.q;have:=y.z1;have:=z.z1;have:=ZJ y.q z.q;have:=Zag (x.q*t.q) (y.q*z.q);omega))
end
theorem Zkq (x y z t u v:RV)  (hx:x.z≤67108864) (hy:y.z≤67108864) (hz:z.z≤67108864) (ht:t.z≤67108864) (hu:u.z≤67108864) (hv:v.z≤67108864):Spec Tryz.prog Tab 127 [pair x y,pair z t,pair u v] (int (sgnQ ((z.q - x.q)*(v.q - y.q) - (t.q - y.q)*(u.q - x.q)))):=by
 refine Zh Tryz.func127 rfl rfl Tryz.ntmps127 rfl (by kernel_rfl) rfl rfl ?_
 refine ZmW (x:=z) (y:=t) (z:=x) (t:=y) (by omega) (by omega) (by omega) (by omega) (fun p9 q9 hk_9_2 hk_9_3 hk_9_4 hk_9_5=> ?_)
 simp only [cn_z] at hk_9_4
 simp only [cn_z] at hk_9_5
 refine ZmW (x:=u) (y:=v) (z:=x) (t:=y) (by omega) (by omega) (by omega) (by omega) (fun p12 q12 hk_12_2 hk_12_3 hk_12_4 hk_12_5=> ?_)
 simp only [cn_z] at hk_12_4
 simp only [cn_z] at hk_12_5
 refine ZhE (x:=cn p9) (y:=cn q9) (z:=cn p12) (t:=cn q12) (by simp only [cn_z];omega) (by simp only [cn_z];omega) (by simp only [cn_z];omega) (by simp only [cn_z];omega) (fun q13 hk_13_1 hk_13_2=> ?_)
 try simp only [cn_q] at hk_13_1
 simp only [cn_z] at hk_13_2
 refine ZfC (x:=cn q13) (by simp only [cn_z];omega) fun n14 h14=> ?_
 simp only [cn_q] at h14
 refine⟨by kernel_rfl,?_⟩
 refine Eq.trans (b:=int n14) ?_ rfl
 subst_vars;rfl
section
variable {x y z t u v : RV} 
theorem ZkE (hx:x.z≤67108864) (hy:y.z≤67108864) (hz:z.z≤67108864) (ht:t.z≤67108864) (hu:u.z≤67108864) (hv:v.z≤67108864) (k:∀ n,n=sgnQ ((z.q - x.q)*(v.q - y.q) - (t.q - y.q)*(u.q - x.q))→K (int n)):Ask 127 [pair x y,pair z t,pair u v] K:=
 use (Zkq x y z t u v  hx hy hz ht hu hv) rfl (k _ rfl)
end
theorem Zi3 (x y z t u v:RV)  (hx:x.z≤67108864) (hy:y.z≤67108864) (hz:z.z≤67108864) (ht:t.z≤67108864) (hu:u.z≤67108864) (hv:v.z≤67108864):Spec Tryz.prog Tab 41 [pair x y,pair z t,pair u v] (int (sgnQ ((z.q - x.q)*(v.q - y.q) - (t.q - y.q)*(u.q - x.q)))):=by
 refine Zh Tryz.func41 rfl rfl Tryz.ntmps41 rfl (by kernel_rfl) rfl rfl ?_
 refine k_RV (x:=x) (y:=y) (z:=z) (t:=t) (by omega) (by omega) (by omega) (by omega) (fun p9 q9 hk_9_2 hk_9_3 hk_9_4 hk_9_5=> ?_)
 simp only [cn_z] at hk_9_4
 simp only [cn_z] at hk_9_5
 refine k_RV (x:=x) (y:=y) (z:=u) (t:=v) (by omega) (by omega) (by omega) (by omega) (fun p12 q12 hk_12_2 hk_12_3 hk_12_4 hk_12_5=> ?_)
 simp only [cn_z] at hk_12_4
 simp only [cn_z] at hk_12_5
 refine Zmn (x:=cn p9) (y:=cn q9) (z:=cn p12) (t:=cn q12) (by simp only [cn_z];omega) (by simp only [cn_z];omega) (by simp only [cn_z];omega) (by simp only [cn_z];omega) (fun q13 hk_13_1 hk_13_2=> ?_)
 try simp only [cn_q] at hk_13_1
 simp only [cn_z] at hk_13_2
 refine ZfC (x:=cn q13) (by simp only [cn_z];omega) fun n14 h14=> ?_
 simp only [cn_q] at h14
 refine⟨by kernel_rfl,?_⟩
 refine Eq.trans (b:=int n14) ?_ rfl
 subst_vars;rfl
section
variable {x y z t u v : RV} 
theorem ZkG (hx:x.z≤67108864) (hy:y.z≤67108864) (hz:z.z≤67108864) (ht:t.z≤67108864) (hu:u.z≤67108864) (hv:v.z≤67108864) (k:∀ n,n=sgnQ ((z.q - x.q)*(v.q - y.q) - (t.q - y.q)*(u.q - x.q))→K (int n)):Ask 41 [pair x y,pair z t,pair u v] K:=
 use (Zi3 x y z t u v  hx hy hz ht hu hv) rfl (k _ rfl)
end
def pts (l:List (RV×RV)) (i:Nat):poly.Pt:=(((l[i]?).getD (z0,z0)).1.q,((l[i]?).getD (z0,z0)).2.q)
theorem Zci {l:List (RV×RV)} {i:Nat} {p:RV×RV} (h:l[i]? =some p):pts l i=(p.1.q,p.2.q):=by simp [pts,h]
open Classical in
noncomputable def convE (m:Int) (l:List (RV×RV)):Int:=if m< (l.length:Int) then 2 else if l.length< 3 then 3 else if poly.Edges (pts l) l.length then 0 else 3
theorem Zk8 {m:Int} {l:List (RV×RV)} (h:m< (l.length:Int)):convE m l=2:=if_pos h
theorem Zk7 {m:Int} {l:List (RV×RV)} (h:¬ m< (l.length:Int)) (h2:l.length< 3):convE m l=3:=by rw [convE,if_neg h,if_pos h2]
theorem Zk9 {m:Int} {l:List (RV×RV)} (h:¬ m< (l.length:Int)) (h2:¬ l.length< 3) (h3:poly.Edges (pts l) l.length):convE m l=0:=by rw [convE,if_neg h,if_neg h2,if_pos h3]
theorem Zk6 {m:Int} {l:List (RV×RV)} (h:¬ m< (l.length:Int)) (h2:¬ l.length< 3) (h3:¬ poly.Edges (pts l) l.length):convE m l=3:=by rw [convE,if_neg h,if_neg h2,if_neg h3]
theorem ZbX {m:Int} {l:List (RV×RV)}:convE m l=0↔¬ m< (l.length:Int)∧¬ l.length< 3∧poly.Edges (pts l) l.length:=by
 unfold convE
 by_cases h1:m< (l.length:Int)
 ·simp [h1]
 ·by_cases h2:l.length< 3
  ·simp [h1,h2]
  ·by_cases h3:poly.Edges (pts l) l.length<;>simp [h1,h2,h3]
set_option maxHeartbeats 400000 in
theorem ZiX (l : List (RV × RV)) (m : Int) (hl : ∀ p, p ∈ l → p.1.z ≤ 67108864 ∧ p.2.z ≤ 67108864) (hn : l.length ≤ 1073741824) : Spec Tryz.prog Tab 67 [.val (.one (.d (.list (List.map rdv l)))), int m] (int (convE m l)) := by
  have hL : (List.map rdv l).length = l.length := List.length_map ..
  refine Zh Tryz.func67 rfl rfl Tryz.ntmps67 rfl (by kernel_rfl) rfl rfl ?_
  refine ⟨fun e1 => ?_, fun e1 => ?_⟩
  · have f11 : ((List.map rdv l).length : Int) > m := of_decide_eq_true e1
    refine Eq.trans (b := int 2) ?_ rfl
    rw [Zk8 (by omega)]
  · have f11 : ¬ (((List.map rdv l).length : Int) > m) := of_decide_eq_false e1
    refine ⟨fun e2 => ?_, fun e2 => ?_⟩
    · have f15 : ((List.map rdv l).length : Int) < 3 := of_decide_eq_true e2
      refine Eq.trans (b := int 3) ?_ rfl
      rw [Zk7 (by omega) (by omega)]
    · have f15 : ¬ (((List.map rdv l).length : Int) < 3) := of_decide_eq_false e2
      refine ⟨Nat, fun i => [(0, .val (.one (.d (.list (List.map rdv l))))), (5, int ((List.map rdv l).length : Int)), (18, .val (.one (.d (.list (List.map rdv l))))), (19, int ((List.map rdv l).length : Int)), (20, int (i : Int))],
        fun i => [], fun i => i ≤ l.length ∧ ∀ i' k, i' < i → 2 ≤ k → k < l.length → 0 < poly.ori (pts l i') (pts l ((i' + 1) % l.length)) (pts l ((i' + k) % l.length)), fun i => l.length - i, 0, ?_, ⟨Nat.zero_le _, fun i' k h => absurd h (Nat.not_lt_zero _)⟩, fun i hs => ?_⟩
      · constructor <;> (repeat' (first | exact rfl | exact True.intro | exact ⟨_, _, rfl⟩ | exact (by decide) | apply And.intro))
        all_goals first | exact congrArg (fun n : Int => D.v (.int .i64 n)) (by omega) | exact congrArg (fun n : Int => D.v (.int .i64 n)) (by rw [wrap64 _ (by omega) (by omega)]; omega) | (simp; done)
      obtain ⟨hi, hall⟩ := hs
      refine ⟨fun e3 => ?_, fun e3 => ?_⟩
      · have f21 : (i : Int) < ((List.map rdv l).length : Int) := of_decide_eq_true e3
        obtain ⟨x23, hx23⟩ : ∃ vv, l[i]? = some vv := ⟨_, List.getElem?_eq_getElem (by first | omega | exact Nat.mod_lt _ (by omega))⟩
        have hzx23 := hl x23 (List.mem_of_getElem? hx23)
        have hpx23 := Zci hx23
        refine k_ix i [D.v (.bool x23.1.s), D.v (.string x23.1.a), D.v (.string x23.1.d), D.v (.bool x23.2.s), D.v (.string x23.2.a), D.v (.string x23.2.d)] (by first | rfl | omega | (rw [wrap64 _ (by omega) (by omega)]; omega)) (Zw hx23) rfl ?_
        refine ⟨Nat, fun k => [(0, .val (.one (.d (.list (List.map rdv l))))), (5, int ((List.map rdv l).length : Int)), (6, int (i : Int)), (7, .val (.one (.ptr 7 0))), (8, int (k : Int)), (18, .val (.one (.d (.list (List.map rdv l))))), (19, int ((List.map rdv l).length : Int)), (20, int (i : Int))],
          fun k => [(7, .var 26 [.d (.v (.bool x23.1.s)), .d (.v (.string x23.1.a)), .d (.v (.string x23.1.d)), .d (.v (.bool x23.2.s)), .d (.v (.string x23.2.a)), .d (.v (.string x23.2.d))])], fun k => 2 ≤ k ∧ ∀ k', 2 ≤ k' → k' < k → k' < l.length → 0 < poly.ori (pts l i) (pts l ((i + 1) % l.length)) (pts l ((i + k') % l.length)), fun k => l.length - k, 2, ?_, ⟨Nat.le_refl _, fun k' h1 h2 => by omega⟩, fun k hs => ?_⟩
        · constructor <;> (repeat' (first | exact rfl | exact True.intro | exact ⟨_, _, rfl⟩ | exact (by decide) | apply And.intro))
          all_goals first | exact congrArg (fun n : Int => D.v (.int .i64 n)) (by omega) | exact congrArg (fun n : Int => D.v (.int .i64 n)) (by rw [wrap64 _ (by omega) (by omega)]; omega) | (simp; done)
        obtain ⟨hk, hin0⟩ := hs
        refine ⟨fun e4 => ?_, fun e4 => ?_⟩
        · have f27 : (k : Int) < ((List.map rdv l).length : Int) := of_decide_eq_true e4
          refine ZkC (i + 1) l.length (by first | rfl | omega | (rw [wrap64 _ (by omega) (by omega)]; omega)) (by first | rfl | omega | (rw [wrap64 _ (by omega) (by omega)]; omega)) (by omega) ?_
          obtain ⟨x36, hx36⟩ : ∃ vv, l[((i + 1) % l.length)]? = some vv := ⟨_, List.getElem?_eq_getElem (by first | omega | exact Nat.mod_lt _ (by omega))⟩
          have hzx36 := hl x36 (List.mem_of_getElem? hx36)
          have hpx36 := Zci hx36
          refine k_ix ((i + 1) % l.length) [D.v (.bool x36.1.s), D.v (.string x36.1.a), D.v (.string x36.1.d), D.v (.bool x36.2.s), D.v (.string x36.2.a), D.v (.string x36.2.d)] (by first | rfl | omega | (rw [wrap64 _ (by omega) (by omega)]; omega)) (Zw hx36) rfl ?_
          refine ZkC (i + k) l.length (by first | rfl | omega | (rw [wrap64 _ (by omega) (by omega)]; omega)) (by first | rfl | omega | (rw [wrap64 _ (by omega) (by omega)]; omega)) (by omega) ?_
          obtain ⟨x44, hx44⟩ : ∃ vv, l[((i + k) % l.length)]? = some vv := ⟨_, List.getElem?_eq_getElem (by first | omega | exact Nat.mod_lt _ (by omega))⟩
          have hzx44 := hl x44 (List.mem_of_getElem? hx44)
          have hpx44 := Zci hx44
          refine k_ix ((i + k) % l.length) [D.v (.bool x44.1.s), D.v (.string x44.1.a), D.v (.string x44.1.d), D.v (.bool x44.2.s), D.v (.string x44.2.a), D.v (.string x44.2.d)] (by first | rfl | omega | (rw [wrap64 _ (by omega) (by omega)]; omega)) (Zw hx44) rfl ?_
          refine ZkE (x := x23.1) (y := x23.2) (z := x36.1) (t := x36.2) (u := x44.1) (v := x44.2) (by omega) (by omega) (by omega) (by omega) (by omega) (by omega) (fun n46 hk_46_1 => ?_)
          refine ⟨by kernel_rfl, ?_⟩
          refine ⟨fun e5 => ?_, fun e5 => ?_⟩
          · have f47 : (x36.1.q - x23.1.q) * (x44.2.q - x23.2.q) - (x36.2.q - x23.2.q) * (x44.1.q - x23.1.q) ≤ 0 := (Zcf hk_46_1).1 (of_decide_eq_true e5)
            refine Eq.trans (b := int 3) ?_ rfl
            rw [Zk6 (by omega) (by omega) (fun hE => by have := hE i k (by omega) hk (by omega); rw [hpx23, hpx36, hpx44] at this; exact absurd f47 (Rat.not_le.2 this))]
          · have f47 : ¬ ((x36.1.q - x23.1.q) * (x44.2.q - x23.2.q) - (x36.2.q - x23.2.q) * (x44.1.q - x23.1.q) ≤ 0) := fun hh => of_decide_eq_false e5 ((Zcf hk_46_1).2 hh)
            have hpos : 0 < poly.ori (pts l i) (pts l ((i + 1) % l.length)) (pts l ((i + k) % l.length)) := by rw [hpx23, hpx36, hpx44]; exact Rat.not_le.1 f47
            refine ⟨k + 1, ⟨by omega, fun k' h1 h2 h3 => by
                      by_cases e : k' = k
                      · subst e; exact hpos
                      · exact hin0 k' h1 (by omega) h3⟩, by simp only; omega, ?_⟩
            constructor <;> (repeat' (first | exact rfl | exact True.intro | apply And.intro))
            all_goals first
              | exact congrArg (fun n : Int => D.v (.int .i64 n)) (by rw [wrap64 _ (by omega) (by omega)]; omega)
              | exact congrArg (fun n : Int => D.v (.int .i64 n)) (by omega)
        · have f27 : ¬ ((k : Int) < ((List.map rdv l).length : Int)) := of_decide_eq_false e4
          have hin : ∀ k', 2 ≤ k' → k' < l.length → 0 < poly.ori (pts l i) (pts l ((i + 1) % l.length)) (pts l ((i + k') % l.length)) := fun k' h1 h2 => hin0 k' h1 (by omega) h2
          refine ⟨i + 1, ⟨by omega, fun i' k h1 h2 h3 => by
                by_cases e : i' = i
                · subst e; exact hin k h2 h3
                · exact hall i' k (by omega) h2 h3⟩, by simp only; omega, ?_⟩
          constructor <;> (repeat' (first | exact rfl | exact True.intro | apply And.intro))
          all_goals first
            | exact congrArg (fun n : Int => D.v (.int .i64 n)) (by rw [wrap64 _ (by omega) (by omega)]; omega)
            | exact congrArg (fun n : Int => D.v (.int .i64 n)) (by omega)
      · have f21 : ¬ ((i : Int) < ((List.map rdv l).length : Int)) := of_decide_eq_false e3
        refine Eq.trans (b := int 0) ?_ rfl
        rw [Zk9 (by omega) (by omega) (fun i' k h1 h2 h3 => hall i' k (by omega) h2 h3)]
theorem Zg1 (l:List (RV×RV)) (hl:∀ p,p∈l→p.1.z≤67108864∧p.2.z≤67108864) (hn:l.length≤1073741824):Spec Tryz.prog Tab 27 [.val (.one (.d (.list (List.map rdv l))))] (int (convE 64 l)):=by
 refine Zh Tryz.func27 rfl rfl Tryz.ntmps27 rfl (by kernel_rfl) rfl rfl ?_
 refine use (ZiX l (64) hl hn) rfl ?_
 refine Eq.trans (b:=int (convE 64 l)) ?_ rfl
 subst_vars;rfl
theorem ZeA {l:List (RV×RV)} (hl:∀ p,p∈l→p.1.z≤67108864∧p.2.z≤67108864) (hn:l.length≤1073741824) (k:∀ n,n=convE 64 l→K (int n)):Ask 27 [vecs l] K:=use (Zg1 l hl hn) rfl (k _ rfl)
set_option maxHeartbeats 400000 in
theorem Zi4 (l:List (RV×RV)) (m:Int) (hl:∀ p,p∈l→p.1.z≤67108864∧p.2.z≤67108864) (hn:l.length≤1073741824):Spec Tryz.prog Tab 10 [.val (.one (.d (.list (List.map rdv l)))),int m] (int (convE m l)):=by
 have hL:(List.map rdv l).length=l.length:=List.length_map ..
 refine Zh Tryz.func10 rfl rfl Tryz.ntmps10 rfl (by kernel_rfl) rfl rfl ?_
 refine⟨fun e1=> ?_,fun e1=> ?_⟩
 ·have f11:((List.map rdv l).length:Int) >m:=of_decide_eq_true e1
  refine Eq.trans (b:=int 2) ?_ rfl
  rw [Zk8 (by omega)]
 ·have f11:¬ (((List.map rdv l).length:Int) >m):=of_decide_eq_false e1
  refine⟨fun e2=> ?_,fun e2=> ?_⟩
  ·have f14:((List.map rdv l).length:Int)< 3:=of_decide_eq_true e2
   refine Eq.trans (b:=int 3) ?_ rfl
   rw [Zk7 (by omega) (by omega)]
  ·have f14:¬ (((List.map rdv l).length:Int)< 3):=of_decide_eq_false e2
   refine⟨Nat,fun i=> [(0,.val (.one (.d (.list (List.map rdv l))))),(16,int ((List.map rdv l).length:Int)),(17,int (i:Int))],
    fun i=> [],fun i=>i≤l.length∧∀ j k i',j< k→k< i'→i'< i→0< poly.ori (pts l j) (pts l k) (pts l i'),fun i=>l.length - i,0,?_,⟨Nat.zero_le _,fun j k i' _ _ h=>absurd h (Nat.not_lt_zero _)⟩,fun i hs=> ?_⟩
   ·constructor<;>(repeat' (first|exact rfl|exact True.intro|exact⟨_,_,rfl⟩|exact(by decide)|apply And.intro))
    all_goals first|exact congrArg (fun n:Int=>D.v (.int .i64 n)) (by omega)|exact congrArg (fun n:Int=>D.v (.int .i64 n)) (by rw [wrap64 _ (by omega) (by omega)];omega)|(simp;done)
   obtain⟨hi,h1⟩:=hs
   refine⟨fun e3=> ?_,fun e3=> ?_⟩
   ·have f18:(i:Int)< ((List.map rdv l).length:Int):=of_decide_eq_true e3
    refine⟨Nat,fun k=> [(0,.val (.one (.d (.list (List.map rdv l))))),(5,int (i:Int)),(16,int ((List.map rdv l).length:Int)),(17,int (i:Int)),(20,int (i:Int)),(21,int (k:Int))],
     fun k=> [],fun k=>k≤i∧∀ j k',j< k'→k'< k→0< poly.ori (pts l j) (pts l k') (pts l i),fun k=>i - k,0,?_,⟨Nat.zero_le _,fun j k' _ h=>absurd h (Nat.not_lt_zero _)⟩,fun k hs=> ?_⟩
    ·constructor<;>(repeat' (first|exact rfl|exact True.intro|exact⟨_,_,rfl⟩|exact(by decide)|apply And.intro))
     all_goals first|exact congrArg (fun n:Int=>D.v (.int .i64 n)) (by omega)|exact congrArg (fun n:Int=>D.v (.int .i64 n)) (by rw [wrap64 _ (by omega) (by omega)];omega)|(simp;done)
    obtain⟨hk,h20⟩:=hs
    refine⟨fun e4=> ?_,fun e4=> ?_⟩
    ·have f22:(k:Int)< (i:Int):=of_decide_eq_true e4
     refine⟨Nat,fun j=> [(0,.val (.one (.d (.list (List.map rdv l))))),(5,int (i:Int)),(6,int (k:Int)),(16,int ((List.map rdv l).length:Int)),(17,int (i:Int)),(20,int (i:Int)),(21,int (k:Int)),(24,int (k:Int)),(25,int (j:Int))],
      fun j=> [],fun j=>j≤k∧∀ j',j'< j→0< poly.ori (pts l j') (pts l k) (pts l i),fun j=>k - j,0,?_,⟨Nat.zero_le _,fun j' h=>absurd h (Nat.not_lt_zero _)⟩,fun j hs=> ?_⟩
     ·constructor<;>(repeat' (first|exact rfl|exact True.intro|exact⟨_,_,rfl⟩|exact(by decide)|apply And.intro))
      all_goals first|exact congrArg (fun n:Int=>D.v (.int .i64 n)) (by omega)|exact congrArg (fun n:Int=>D.v (.int .i64 n)) (by rw [wrap64 _ (by omega) (by omega)];omega)|(simp;done)
     obtain⟨hj,h30⟩:=hs
     refine⟨fun e5=> ?_,fun e5=> ?_⟩
     ·have f26:(j:Int)< (k:Int):=of_decide_eq_true e5
      obtain⟨x30,hx30⟩:∃ vv,l[j]? =some vv:=⟨_,List.getElem?_eq_getElem (by first|omega|exact Nat.mod_lt _ (by omega))⟩
      have hzx30:=hl x30 (List.mem_of_getElem? hx30)
      have hpx30:=Zci hx30
      refine k_ix j [D.v (.bool x30.1.s),D.v (.string x30.1.a),D.v (.string x30.1.d),D.v (.bool x30.2.s),D.v (.string x30.2.a),D.v (.string x30.2.d)] (by first|rfl|omega|(rw [wrap64 _ (by omega) (by omega)];omega)) (Zw hx30) rfl ?_
      obtain⟨x34,hx34⟩:∃ vv,l[k]? =some vv:=⟨_,List.getElem?_eq_getElem (by first|omega|exact Nat.mod_lt _ (by omega))⟩
      have hzx34:=hl x34 (List.mem_of_getElem? hx34)
      have hpx34:=Zci hx34
      refine k_ix k [D.v (.bool x34.1.s),D.v (.string x34.1.a),D.v (.string x34.1.d),D.v (.bool x34.2.s),D.v (.string x34.2.a),D.v (.string x34.2.d)] (by first|rfl|omega|(rw [wrap64 _ (by omega) (by omega)];omega)) (Zw hx34) rfl ?_
      obtain⟨x38,hx38⟩:∃ vv,l[i]? =some vv:=⟨_,List.getElem?_eq_getElem (by first|omega|exact Nat.mod_lt _ (by omega))⟩
      have hzx38:=hl x38 (List.mem_of_getElem? hx38)
      have hpx38:=Zci hx38
      refine k_ix i [D.v (.bool x38.1.s),D.v (.string x38.1.a),D.v (.string x38.1.d),D.v (.bool x38.2.s),D.v (.string x38.2.a),D.v (.string x38.2.d)] (by first|rfl|omega|(rw [wrap64 _ (by omega) (by omega)];omega)) (Zw hx38) rfl ?_
      refine ZkG (x:=x30.1) (y:=x30.2) (z:=x34.1) (t:=x34.2) (u:=x38.1) (v:=x38.2) (by omega) (by omega) (by omega) (by omega) (by omega) (by omega) (fun n40 hk_40_1=> ?_)
      refine⟨by kernel_rfl,?_⟩
      refine⟨fun e6=> ?_,fun e6=> ?_⟩
      ·have f41:(x34.1.q - x30.1.q)*(x38.2.q - x30.2.q) - (x34.2.q - x30.2.q)*(x38.1.q - x30.1.q)≤0:=(Zcf hk_40_1).1 (of_decide_eq_true e6)
       refine Eq.trans (b:=int 3) ?_ rfl
       rw [Zk6 (by omega) (by omega) (fun hE=>by have:=poly.ring_of_edges hE j k i (by omega) (by omega) (by omega);rw [hpx30,hpx34,hpx38] at this;exact absurd f41 (Rat.not_le.2 this))]
      ·have f41:¬ ((x34.1.q - x30.1.q)*(x38.2.q - x30.2.q) - (x34.2.q - x30.2.q)*(x38.1.q - x30.1.q)≤0):=fun hh=>of_decide_eq_false e6 ((Zcf hk_40_1).2 hh)
       have hpos:0< poly.ori (pts l j) (pts l k) (pts l i):=by rw [hpx30,hpx34,hpx38];exact Rat.not_le.1 f41
       refine⟨j+1,⟨by omega,fun j' g1=>by
        by_cases e:j'=j
        ·subst e;exact hpos
        ·exact h30 j' (by omega)⟩,by simp only;omega,?_⟩
       constructor<;>(repeat' (first|exact rfl|exact True.intro|apply And.intro))
       all_goals first
        |exact congrArg (fun n:Int=>D.v (.int .i64 n)) (by rw [wrap64 _ (by omega) (by omega)];omega)
        |exact congrArg (fun n:Int=>D.v (.int .i64 n)) (by omega)
     ·have f26:¬ ((j:Int)< (k:Int)):=of_decide_eq_false e5
      have h3:∀ j,j< k→0< poly.ori (pts l j) (pts l k) (pts l i):=fun j h=>h30 j (by omega)
      refine⟨k+1,⟨by omega,fun j k' g1 g2=>by
       by_cases e:k'=k
       ·subst e;exact h3 j g1
       ·exact h20 j k' g1 (by omega)⟩,by simp only;omega,?_⟩
      constructor<;>(repeat' (first|exact rfl|exact True.intro|apply And.intro))
      all_goals first
       |exact congrArg (fun n:Int=>D.v (.int .i64 n)) (by rw [wrap64 _ (by omega) (by omega)];omega)
       |exact congrArg (fun n:Int=>D.v (.int .i64 n)) (by omega)
    ·have f22:¬ ((k:Int)< (i:Int)):=of_decide_eq_false e4
     have h2:∀ j k,j< k→k< i→0< poly.ori (pts l j) (pts l k) (pts l i):=fun j k h h'=>h20 j k h (by omega)
     refine⟨i+1,⟨by omega,fun j k i' g1 g2 g3=>by
      by_cases e:i'=i
      ·subst e;exact h2 j k g1 g2
      ·exact h1 j k i' g1 g2 (by omega)⟩,by simp only;omega,?_⟩
     constructor<;>(repeat' (first|exact rfl|exact True.intro|apply And.intro))
     all_goals first
      |exact congrArg (fun n:Int=>D.v (.int .i64 n)) (by rw [wrap64 _ (by omega) (by omega)];omega)
      |exact congrArg (fun n:Int=>D.v (.int .i64 n)) (by omega)
   ·have f18:¬ ((i:Int)< ((List.map rdv l).length:Int)):=of_decide_eq_false e3
    refine Eq.trans (b:=int 0) ?_ rfl
    rw [Zk9 (by omega) (by omega) (poly.edges_of_ring fun j k i' g1 g2 g3=>h1 j k i' g1 g2 (by omega))]
theorem ZnV {l:List (RV×RV)} (hl:∀ p,p∈l→p.1.z≤67108864∧p.2.z≤67108864) (hn:l.length≤1073741824) (m:Int) (k:∀ n,n=convE m l→K (int n)):Ask 10 [vecs l,int m] K:=use (Zi4 l m hl hn) rfl (k _ rfl)
end
end Go.Proofs.YtncoimmjjfmhdaaGreatDoor.eng
