/- Joined by wip/bundle.py: XPoly XPolyA. -/
import Derived.Test.YtjlhknppkodilaaGreatDoorGrpT
import Derived.Test.YtjlhknppkodilaaGreatDoorWg
import Derived.Test.YtjlhknppkodilaaGreatDoorGrpS
set_option maxRecDepth 100000
namespace Go.Proofs.YtjlhknppkodilaaGreatDoor.poly
abbrev Pt:=Rat×Rat
def ori (a b c:Pt):Rat:=(b.1 - a.1)*(c.2 - a.2) - (b.2 - a.2)*(c.1 - a.1)
section
variable (P : Nat → Pt) (n : Nat)
def Edges:Prop:=∀ i k,i< n→2≤k→k< n→0< ori (P i) (P ((i+1) % n)) (P ((i+k) % n))
variable {P n}
def cr (a b:Pt):Rat:=a.1*b.2 - a.2*b.1
end
end Go.Proofs.YtjlhknppkodilaaGreatDoor.poly
namespace Go.Proofs.YtjlhknppkodilaaGreatDoor.eng
open Go.RowKit num mem seg q held ratA ratB ratC ratD ratE vars ratF
section
variable {K : AV → Prop}
section
variable {x y z t : RV} 
end
theorem ZgB (x y z t:RV)  (hx:x.z≤1073741824) (hy:y.z≤1073741824) (hz:z.z≤1073741824) (ht:t.z≤1073741824):Spec Tryz.prog Tab 128 [pair x y,pair z t] (rat (cn (x.q*t.q - y.q*z.q))):=by
 refine Zf Tryz.func128 rfl rfl Tryz.ntmps128 rfl (by kernel_rfl) rfl rfl ?_
 refine Zhj (x:=x) (y:=t) (by omega) (by omega) fun q9 h9 z9=> ?_
 simp only [cn_z] at z9
 refine Zhj (x:=y) (y:=z) (by omega) (by omega) fun q14 h14 z14=> ?_
 simp only [cn_z] at z14
 refine Zlf (x:=cn q9) (y:=cn q14) (by simp only [cn_z];omega) (by simp only [cn_z];omega) fun q15 h15 z15=> ?_
 simp only [cn_z] at z15
 simp only [cn_q] at h15
 refine⟨by kernel_rfl,?_⟩
 refine Eq.trans (b:=rat (cn q15)) ?_ rfl
 subst_vars;rfl
section
variable {x y z t : RV} 
theorem Zm6 (hx:x.z≤1073741824) (hy:y.z≤1073741824) (hz:z.z≤1073741824) (ht:t.z≤1073741824) (k:∀ q,q=x.q*t.q - y.q*z.q→(cn q).z≤x.z+t.z+y.z+z.z+7→K (rat (cn q))):Ask 128 [pair x y,pair z t] K:=
 use (ZgB x y z t  hx hy hz ht) rfl (k _ rfl (by rw [cn_z];have:=x.z1;have:=t.z1;have:=Zbo x.q t.q;have:=y.z1;have:=z.z1;have:=Zbo y.q z.q;have:=Zcq (x.q*t.q) (y.q*z.q);omega))
end
section
variable {x y z t : RV} 
end
section
variable {x y z t : RV} 
end
theorem Zk9 (x y z t u v:RV)  (hx:x.z≤67108864) (hy:y.z≤67108864) (hz:z.z≤67108864) (ht:t.z≤67108864) (hu:u.z≤67108864) (hv:v.z≤67108864):Spec Tryz.prog Tab 123 [pair x y,pair z t,pair u v] (int (sgnQ ((z.q - x.q)*(v.q - y.q) - (t.q - y.q)*(u.q - x.q)))):=by
 refine Zf Tryz.func123 rfl rfl Tryz.ntmps123 rfl (by kernel_rfl) rfl rfl ?_
 refine ZnK (x:=z) (y:=t) (z:=x) (t:=y) (by omega) (by omega) (by omega) (by omega) (fun p9 q9 hk_9_2 hk_9_3 hk_9_4 hk_9_5=> ?_)
 simp only [cn_z] at hk_9_4
 simp only [cn_z] at hk_9_5
 refine ZnK (x:=u) (y:=v) (z:=x) (t:=y) (by omega) (by omega) (by omega) (by omega) (fun p12 q12 hk_12_2 hk_12_3 hk_12_4 hk_12_5=> ?_)
 simp only [cn_z] at hk_12_4
 simp only [cn_z] at hk_12_5
 refine Zm6 (x:=cn p9) (y:=cn q9) (z:=cn p12) (t:=cn q12) (by simp only [cn_z];omega) (by simp only [cn_z];omega) (by simp only [cn_z];omega) (by simp only [cn_z];omega) (fun q13 hk_13_1 hk_13_2=> ?_)
 try simp only [cn_q] at hk_13_1
 simp only [cn_z] at hk_13_2
 refine Zc5 (x:=cn q13) (by simp only [cn_z];omega) fun n14 h14=> ?_
 simp only [cn_q] at h14
 refine⟨by kernel_rfl,?_⟩
 refine Eq.trans (b:=int n14) ?_ rfl
 subst_vars;rfl
section
variable {x y z t u v : RV} 
theorem Zpw (hx:x.z≤67108864) (hy:y.z≤67108864) (hz:z.z≤67108864) (ht:t.z≤67108864) (hu:u.z≤67108864) (hv:v.z≤67108864) (k:∀ n,n=sgnQ ((z.q - x.q)*(v.q - y.q) - (t.q - y.q)*(u.q - x.q))→K (int n)):Ask 123 [pair x y,pair z t,pair u v] K:=
 use (Zk9 x y z t u v  hx hy hz ht hu hv) rfl (k _ rfl)
end
section
variable {x y z t u v : RV} 
end
def pts (l:List (RV×RV)) (i:Nat):poly.Pt:=(((l[i]?).getD (z0,z0)).1.q,((l[i]?).getD (z0,z0)).2.q)
theorem ZbR {l:List (RV×RV)} {i:Nat} {p:RV×RV} (h:l[i]? =some p):pts l i=(p.1.q,p.2.q):=by simp [pts,h]
open Classical in
noncomputable def convE (m:Int) (l:List (RV×RV)):Int:=if m< (l.length:Int) then 2 else if l.length< 3 then 3 else if poly.Edges (pts l) l.length then 0 else 3
theorem ZlR {m:Int} {l:List (RV×RV)} (h:m< (l.length:Int)):convE m l=2:=if_pos h
theorem ZlQ {m:Int} {l:List (RV×RV)} (h:¬ m< (l.length:Int)) (h2:l.length< 3):convE m l=3:=by rw [convE,if_neg h,if_pos h2]
theorem ZlS {m:Int} {l:List (RV×RV)} (h:¬ m< (l.length:Int)) (h2:¬ l.length< 3) (h3:poly.Edges (pts l) l.length):convE m l=0:=by rw [convE,if_neg h,if_neg h2,if_pos h3]
theorem ZlP {m:Int} {l:List (RV×RV)} (h:¬ m< (l.length:Int)) (h2:¬ l.length< 3) (h3:¬ poly.Edges (pts l) l.length):convE m l=3:=by rw [convE,if_neg h,if_neg h2,if_neg h3]
theorem Znn {m:Int} {l:List (RV×RV)}:convE m l=0↔¬ m< (l.length:Int)∧¬ l.length< 3∧poly.Edges (pts l) l.length:=by
 unfold convE
 by_cases h1:m< (l.length:Int)
 ·simp [h1]
 ·by_cases h2:l.length< 3
  ·simp [h1,h2]
  ·by_cases h3:poly.Edges (pts l) l.length<;>simp [h1,h2,h3]
set_option maxHeartbeats 400000 in
theorem Zjr (l : List (RV × RV)) (m : Int) (hl : ∀ p, p ∈ l → p.1.z ≤ 67108864 ∧ p.2.z ≤ 67108864) (hn : l.length ≤ 1073741824) : Spec Tryz.prog Tab 110 [.val (.one (.d (.list (List.map rdv l)))), int m] (int (convE m l)) := by
  have hL : (List.map rdv l).length = l.length := List.length_map ..
  refine Zf Tryz.func110 rfl rfl Tryz.ntmps110 rfl (by kernel_rfl) rfl rfl ?_
  refine ⟨fun e1 => ?_, fun e1 => ?_⟩
  · have f11 : ((List.map rdv l).length : Int) > m := of_decide_eq_true e1
    refine Eq.trans (b := int 2) ?_ rfl
    rw [ZlR (by omega)]
  · have f11 : ¬ (((List.map rdv l).length : Int) > m) := of_decide_eq_false e1
    refine ⟨fun e2 => ?_, fun e2 => ?_⟩
    · have f15 : ((List.map rdv l).length : Int) < 3 := of_decide_eq_true e2
      refine Eq.trans (b := int 3) ?_ rfl
      rw [ZlQ (by omega) (by omega)]
    · have f15 : ¬ (((List.map rdv l).length : Int) < 3) := of_decide_eq_false e2
      refine ⟨Nat, fun i => [(0, .val (.one (.d (.list (List.map rdv l))))), (5, int ((List.map rdv l).length : Int)), (18, .val (.one (.d (.list (List.map rdv l))))), (19, int ((List.map rdv l).length : Int)), (20, int (i : Int))],
        fun i => [], fun i => i ≤ l.length ∧ ∀ i' k, i' < i → 2 ≤ k → k < l.length → 0 < poly.ori (pts l i') (pts l ((i' + 1) % l.length)) (pts l ((i' + k) % l.length)), fun i => l.length - i, 0, ?_, ⟨Nat.zero_le _, fun i' k h => absurd h (Nat.not_lt_zero _)⟩, fun i hs => ?_⟩
      · constructor <;> (repeat' (first | exact rfl | exact True.intro | exact ⟨_, _, rfl⟩ | exact (by decide) | apply And.intro))
        all_goals first | exact congrArg (fun n : Int => D.v (.int .i64 n)) (by omega) | exact congrArg (fun n : Int => D.v (.int .i64 n)) (by rw [wrap64 _ (by omega) (by omega)]; omega) | (simp; done)
      obtain ⟨hi, hall⟩ := hs
      refine ⟨fun e3 => ?_, fun e3 => ?_⟩
      · have f21 : (i : Int) < ((List.map rdv l).length : Int) := of_decide_eq_true e3
        obtain ⟨x23, hx23⟩ : ∃ vv, l[i]? = some vv := ⟨_, List.getElem?_eq_getElem (by first | omega | exact Nat.mod_lt _ (by omega))⟩
        have hzx23 := hl x23 (List.mem_of_getElem? hx23)
        have hpx23 := ZbR hx23
        refine k_ix i [D.v (.bool x23.1.s), D.v (.string x23.1.a), D.v (.string x23.1.d), D.v (.bool x23.2.s), D.v (.string x23.2.a), D.v (.string x23.2.d)] (by first | rfl | omega | (rw [wrap64 _ (by omega) (by omega)]; omega)) (Zm hx23) rfl ?_
        refine ⟨Nat, fun k => [(0, .val (.one (.d (.list (List.map rdv l))))), (5, int ((List.map rdv l).length : Int)), (6, int (i : Int)), (7, .val (.one (.ptr 7 0))), (8, int (k : Int)), (18, .val (.one (.d (.list (List.map rdv l))))), (19, int ((List.map rdv l).length : Int)), (20, int (i : Int))],
          fun k => [(7, .var 25 [.d (.v (.bool x23.1.s)), .d (.v (.string x23.1.a)), .d (.v (.string x23.1.d)), .d (.v (.bool x23.2.s)), .d (.v (.string x23.2.a)), .d (.v (.string x23.2.d))])], fun k => 2 ≤ k ∧ ∀ k', 2 ≤ k' → k' < k → k' < l.length → 0 < poly.ori (pts l i) (pts l ((i + 1) % l.length)) (pts l ((i + k') % l.length)), fun k => l.length - k, 2, ?_, ⟨Nat.le_refl _, fun k' h1 h2 => by omega⟩, fun k hs => ?_⟩
        · constructor <;> (repeat' (first | exact rfl | exact True.intro | exact ⟨_, _, rfl⟩ | exact (by decide) | apply And.intro))
          all_goals first | exact congrArg (fun n : Int => D.v (.int .i64 n)) (by omega) | exact congrArg (fun n : Int => D.v (.int .i64 n)) (by rw [wrap64 _ (by omega) (by omega)]; omega) | (simp; done)
        obtain ⟨hk, hin0⟩ := hs
        refine ⟨fun e4 => ?_, fun e4 => ?_⟩
        · have f27 : (k : Int) < ((List.map rdv l).length : Int) := of_decide_eq_true e4
          refine Zic (i + 1) l.length (by first | rfl | omega | (rw [wrap64 _ (by omega) (by omega)]; omega)) (by first | rfl | omega | (rw [wrap64 _ (by omega) (by omega)]; omega)) (by omega) ?_
          obtain ⟨x36, hx36⟩ : ∃ vv, l[((i + 1) % l.length)]? = some vv := ⟨_, List.getElem?_eq_getElem (by first | omega | exact Nat.mod_lt _ (by omega))⟩
          have hzx36 := hl x36 (List.mem_of_getElem? hx36)
          have hpx36 := ZbR hx36
          refine k_ix ((i + 1) % l.length) [D.v (.bool x36.1.s), D.v (.string x36.1.a), D.v (.string x36.1.d), D.v (.bool x36.2.s), D.v (.string x36.2.a), D.v (.string x36.2.d)] (by first | rfl | omega | (rw [wrap64 _ (by omega) (by omega)]; omega)) (Zm hx36) rfl ?_
          refine Zic (i + k) l.length (by first | rfl | omega | (rw [wrap64 _ (by omega) (by omega)]; omega)) (by first | rfl | omega | (rw [wrap64 _ (by omega) (by omega)]; omega)) (by omega) ?_
          obtain ⟨x44, hx44⟩ : ∃ vv, l[((i + k) % l.length)]? = some vv := ⟨_, List.getElem?_eq_getElem (by first | omega | exact Nat.mod_lt _ (by omega))⟩
          have hzx44 := hl x44 (List.mem_of_getElem? hx44)
          have hpx44 := ZbR hx44
          refine k_ix ((i + k) % l.length) [D.v (.bool x44.1.s), D.v (.string x44.1.a), D.v (.string x44.1.d), D.v (.bool x44.2.s), D.v (.string x44.2.a), D.v (.string x44.2.d)] (by first | rfl | omega | (rw [wrap64 _ (by omega) (by omega)]; omega)) (Zm hx44) rfl ?_
          refine Zpw (x := x23.1) (y := x23.2) (z := x36.1) (t := x36.2) (u := x44.1) (v := x44.2) (by omega) (by omega) (by omega) (by omega) (by omega) (by omega) (fun n46 hk_46_1 => ?_)
          refine ⟨by kernel_rfl, ?_⟩
          refine ⟨fun e5 => ?_, fun e5 => ?_⟩
          · have f47 : (x36.1.q - x23.1.q) * (x44.2.q - x23.2.q) - (x36.2.q - x23.2.q) * (x44.1.q - x23.1.q) ≤ 0 := (ZN hk_46_1).1 (of_decide_eq_true e5)
            refine Eq.trans (b := int 3) ?_ rfl
            rw [ZlP (by omega) (by omega) (fun hE => by have := hE i k (by omega) hk (by omega); rw [hpx23, hpx36, hpx44] at this; exact absurd f47 (Rat.not_le.2 this))]
          · have f47 : ¬ ((x36.1.q - x23.1.q) * (x44.2.q - x23.2.q) - (x36.2.q - x23.2.q) * (x44.1.q - x23.1.q) ≤ 0) := fun hh => of_decide_eq_false e5 ((ZN hk_46_1).2 hh)
            have hpos : 0 < poly.ori (pts l i) (pts l ((i + 1) % l.length)) (pts l ((i + k) % l.length)) := by rw [hpx23, hpx36, hpx44]; exact Rat.not_le.1 f47
            refine ⟨k + 1, ⟨by omega, fun k' h1 h2 h3 => by
                      by_cases e : k' = k
                      · subst e; exact hpos
                      · exact hin0 k' h1 (by omega) h3⟩, by simp only; omega, ?_⟩
            constructor <;> (repeat' (first | exact rfl | exact True.intro | apply And.intro))
            all_goals first
              | exact congrArg (fun n : Int => D.v (.int .i64 n)) (by rw [wrap64 _ (by omega) (by omega)]; omega)
              | exact congrArg (fun n : Int => D.v (.int .i64 n)) (by omega)
        · have f27 : ¬ ((k : Int) < ((List.map rdv l).length : Int)) := of_decide_eq_false e4
          have hin : ∀ k', 2 ≤ k' → k' < l.length → 0 < poly.ori (pts l i) (pts l ((i + 1) % l.length)) (pts l ((i + k') % l.length)) := fun k' h1 h2 => hin0 k' h1 (by omega) h2
          refine ⟨i + 1, ⟨by omega, fun i' k h1 h2 h3 => by
                by_cases e : i' = i
                · subst e; exact hin k h2 h3
                · exact hall i' k (by omega) h2 h3⟩, by simp only; omega, ?_⟩
          constructor <;> (repeat' (first | exact rfl | exact True.intro | apply And.intro))
          all_goals first
            | exact congrArg (fun n : Int => D.v (.int .i64 n)) (by rw [wrap64 _ (by omega) (by omega)]; omega)
            | exact congrArg (fun n : Int => D.v (.int .i64 n)) (by omega)
      · have f21 : ¬ ((i : Int) < ((List.map rdv l).length : Int)) := of_decide_eq_false e3
        refine Eq.trans (b := int 0) ?_ rfl
        rw [ZlS (by omega) (by omega) (fun i' k h1 h2 h3 => hall i' k (by omega) h2 h3)]
theorem ZhE (l:List (RV×RV)) (hl:∀ p,p∈l→p.1.z≤67108864∧p.2.z≤67108864) (hn:l.length≤1073741824):Spec Tryz.prog Tab 94 [.val (.one (.d (.list (List.map rdv l))))] (int (convE 8 l)):=by
 refine Zf Tryz.func94 rfl rfl Tryz.ntmps94 rfl (by kernel_rfl) rfl rfl ?_
 refine use (Zjr l (8) hl hn) rfl ?_
 refine Eq.trans (b:=int (convE 8 l)) ?_ rfl
 subst_vars;rfl
theorem Zne {l:List (RV×RV)} (hl:∀ p,p∈l→p.1.z≤67108864∧p.2.z≤67108864) (hn:l.length≤1073741824) (k:∀ n,n=convE 8 l→K (int n)):Ask 94 [vecs l] K:=use (ZhE l hl hn) rfl (k _ rfl)
end
end Go.Proofs.YtjlhknppkodilaaGreatDoor.eng
