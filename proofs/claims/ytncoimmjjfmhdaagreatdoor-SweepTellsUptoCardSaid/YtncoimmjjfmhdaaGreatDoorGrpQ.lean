/- Joined by wip/bundle.py: XEngTurnSp XEngSinSp XEngSines XLawTSp. -/
import Derived.Test.YtncoimmjjfmhdaaGreatDoorGrpS
set_option maxRecDepth 100000
namespace Go.Proofs.YtncoimmjjfmhdaaGreatDoor.eng
open Go.RowKit num mem seg q held ratA ratB ratC ratD ratE vars ratF trq
section
variable {x y z t : RV} {K : AV → Prop}
def cosF (p:Rat):Rat:=(((1:Int):Rat) - p) / (((1:Int):Rat)+p)
theorem Zet {p:Rat} (h:0≤p):((1:Int):Rat)+p≠0:=by
 have h1:((1:Int):Rat)=1:=rfl
 rw [h1];grind
theorem sq_nonneg' (p:Rat):0≤p*p:=by
 rcases Rat.le_total (a:=0) (b:=p) with h|h
 ·exact Rat.mul_nonneg h h
 ·have h2:0≤-p:=by grind
  have:=Rat.mul_nonneg h2 h2
  grind
theorem ZcJ (a b:Rat):0≤sqHi a b:=Rat.le_trans (sq_nonneg' a) (ZaO _ _).1
theorem ZcI (a b:Rat):0≤sqLo a b:=by
 unfold sqLo
 split
 ·exact Rat.le_refl
 ·rcases Zcw [b*b] (a*a) with h|h
  ·rw [h];exact sq_nonneg' a
  ·simp only [List.mem_cons,List.mem_nil_iff,or_false] at h
   rw [h];exact sq_nonneg' b
theorem Znz (p:Rat):qs (cosF p)≤2*qs p+30:=by
 unfold cosF
 have h1:=Zag ((1:Int):Rat) p
 have h2:=ZU ((1:Int):Rat) p
 have h3:=Zch (((1:Int):Rat) - p) (((1:Int):Rat)+p)
 have:=Zhn
 omega
theorem ZeK (x:RV) (hx:x.z≤68719476736) (h0:0≤x.q):Spec Tryz.prog Tab 81 [rat x] (rat (cn (cosF x.q))):=by
 refine Zh Tryz.func81 rfl rfl Tryz.ntmps81 rfl (by kernel_rfl) rfl rfl ?_
 refine k_of (1) (by omega) (by omega) fun q1 h1 z1=> ?_
 refine ZbP (by omega) (by omega) fun q2 h2 z2=> ?_
 try simp only [cn_q] at h2
 refine k_of (1) (by omega) (by omega) fun q3 h3 z3=> ?_
 refine ZbQ (by omega) (by omega) fun q4 h4 z4=> ?_
 try simp only [cn_q] at h4
 refine ZnU (by omega) (by omega) (by subst_vars;simp only [cn_q];exact Zet h0) fun q5 h5 z5=> ?_
 try simp only [cn_q] at h5
 refine⟨by kernel_rfl,?_⟩
 refine Eq.trans (b:=rat (cn _)) ?_ rfl
 subst_vars;rfl
theorem ZdT (hx:x.z≤68719476736) (h0:0≤x.q) (k:∀ q,q=cosF x.q→(cn q).z≤2*x.z+40→K (rat (cn q))):Ask 81 [rat x] K:=
 use (ZeK x hx h0) rfl (k _ rfl (by have:=Znz x.q;have:=x.z1;rw [cn_z];omega))
theorem ZfT (x y:RV) (hx:x.z≤1073741824) (hy:y.z≤1073741824):Spec Tryz.prog Tab 34 [pair x y] (pair (cn (cosF (sqHi (slo x y) (shi x y)))) (cn (cosF (sqLo (slo x y) (shi x y))))):=by
 refine Zh Tryz.func34 rfl rfl Tryz.ntmps34 rfl (by kernel_rfl) rfl rfl ?_
 refine Zpd (by omega) (by omega) fun p1 q1 e1 h1 y1 z1=> ?_
 try simp only [cn_q] at e1 h1
 have np:0≤p1:=by rw [e1];exact ZcI _ _
 have nq:0≤q1:=by rw [h1];exact ZcJ _ _
 refine ZdT (by omega) (by rw [cn_q];assumption) fun q2 h2 z2=> ?_
 try simp only [cn_q] at h2
 refine ZdT (by omega) (by rw [cn_q];assumption) fun q3 h3 z3=> ?_
 try simp only [cn_q] at h3
 refine⟨by kernel_rfl,?_⟩
 refine Eq.trans (b:=pair (cn _) (cn _)) ?_ rfl
 subst_vars;rfl
theorem ZkF (hx:x.z≤1073741824) (hy:y.z≤1073741824) (k:∀ p q,p=cosF (sqHi (slo x y) (shi x y))→q=cosF (sqLo (slo x y) (shi x y))→K (pair (cn p) (cn q))):Ask 34 [pair x y] K:=
 use (ZfT x y hx hy) rfl (k _ _ rfl rfl)
def cosL (l h:Rat):Rat:=if hasQ l h ((0:Int):Rat)=true then lowL (circ false l) [circ false h,((1:Int):Rat)] else lowL (circ false l) [circ false h]
def cosH (l h:Rat):Rat:=if hasQ l h ((0:Int):Rat)=true then highL (circ false l) [circ false h,((1:Int):Rat)] else highL (circ false l) [circ false h]
theorem ZeS (x y:RV) (hx:x.z≤1073741824) (hy:y.z≤1073741824):Spec Tryz.prog Tab 15 [pair x y] (pair (cn (cosL (slo x y) (shi x y))) (cn (cosH (slo x y) (shi x y)))):=by
 refine Zh Tryz.func15 rfl rfl Tryz.ntmps15 rfl (by kernel_rfl) rfl rfl ?_
 refine Zez (by omega) (by omega) fun p1 q1 e1 h1 y1 z1=> ?_
 try simp only [cn_q] at e1 h1
 refine ZbR (by omega) fun p2 q2 e2 h2 y2 z2=> ?_
 try simp only [cn_q] at e2 h2
 refine ZbR (by omega) fun p3 q3 e3 h3 y3 z3=> ?_
 try simp only [cn_q] at e3 h3
 refine k_I (0) (by omega) (by omega) fun q4 h4 z4=> ?_
 refine Zmm (by omega) (by omega) (by omega) fun b5 h5=> ?_
 try simp only [cn_q] at h5
 refine⟨by kernel_rfl,?_⟩
 refine⟨fun e6=> ?_,fun e6=> ?_⟩
 ·skip
  refine k_I (1) (by omega) (by omega) fun q7 h7 z7=> ?_
  refine ZdU 1099511627776 (by decide) p2 [p3,q7] rfl (by intro q hq;simp only [List.mem_cons,List.mem_nil_iff,or_false] at hq;rcases hq with rfl|rfl|rfl<;>(simp only [cn_z] at*;omega)) (by simp) fun p8 q8 e8 h8 y8 z8=> ?_
  refine⟨by kernel_rfl,?_⟩
  refine Eq.trans (b:=pair (cn _) (cn _)) ?_ rfl
  unfold cosL cosH
  subst_vars
  first
   |rw [if_pos (Eq.symm (by assumption)),if_pos (Eq.symm (by assumption))]
   |rw [if_neg (ne_true_of_eq_false (Eq.symm (by assumption))),if_neg (ne_true_of_eq_false (Eq.symm (by assumption)))]
 ·skip
  refine ZdU 1099511627776 (by decide) p2 [p3] rfl (by intro q hq;simp only [List.mem_cons,List.mem_nil_iff,or_false] at hq;rcases hq with rfl|rfl<;>(simp only [cn_z] at*;omega)) (by simp) fun p9 q9 e9 h9 y9 z9=> ?_
  refine Eq.trans (b:=pair (cn _) (cn _)) ?_ rfl
  unfold cosL cosH
  subst_vars
  first
   |rw [if_pos (Eq.symm (by assumption)),if_pos (Eq.symm (by assumption))]
   |rw [if_neg (ne_true_of_eq_false (Eq.symm (by assumption))),if_neg (ne_true_of_eq_false (Eq.symm (by assumption)))]
theorem ZiK (hx:x.z≤1073741824) (hy:y.z≤1073741824) (k:∀ p q,p=cosL (slo x y) (shi x y)→q=cosH (slo x y) (shi x y)→K (pair (cn p) (cn q))):Ask 15 [pair x y] K:=
 use (ZeS x y hx hy) rfl (k _ _ rfl rfl)
end
end Go.Proofs.YtncoimmjjfmhdaaGreatDoor.eng
namespace Go.Proofs.YtncoimmjjfmhdaaGreatDoor.eng
open Go.RowKit num mem seg q held ratA ratB ratC ratD ratE vars ratF trq
section
variable {x y z t : RV} {K : AV → Prop}
def stp (l h:Rat) (s:Rat×Rat) (n:Int):Rat×Rat:=if hasQ l h (n:Rat)=true then (minQ s.1 (n:Rat),maxQ s.2 (n:Rat)) else s
def sinS (l h:Rat):Rat×Rat:=([-1,1]:List Int).foldl (stp l h) (minQ (sinq l) (sinq h),maxQ (sinq l) (sinq h))
theorem min_self (p:Rat):minQ p p=p:=by unfold minQ;split<;>rfl
theorem Zmf (p:Rat):maxQ p p=p:=by unfold maxQ;split<;>rfl
theorem ZnJ (p q:Rat):minQ p q≤maxQ p q:=by
 unfold minQ maxQ
 split<;>split<;>grind
theorem tq_f (p:Rat):tq false p=p:=rfl
set_option maxHeartbeats 4000000 in
theorem Ze7 (x y:RV) (hx:x.z≤3145760) (hy:y.z≤3145760):Spec Tryz.prog Tab 35 [pair x y] (pair (cn (sinS (slo x y) (shi x y)).1) (cn (sinS (slo x y) (shi x y)).2)):=by
 refine Zh Tryz.func35 rfl rfl Tryz.ntmps35 rfl (by kernel_rfl) rfl rfl ?_
 refine Za1 (by omega) (by omega) (by omega) (by omega) fun l h el eh zl zh=> ?_
 rw [min_self] at el
 rw [Zmf] at eh
 refine ZnN (by omega) fun q1 h1 z1=> ?_
 simp only [cn_q] at h1
 refine ZmY (by omega) fun q2 h2 z2=> ?_
 simp only [cn_q,tq_f] at h2
 refine ZfD (by omega) fun q3 h3 z3=> ?_
 simp only [cn_q] at h3
 refine ZnN (by omega) fun q4 h4 z4=> ?_
 simp only [cn_q] at h4
 refine ZmY (by omega) fun q5 h5 z5=> ?_
 simp only [cn_q,tq_f] at h5
 refine ZfD (by omega) fun q6 h6 z6=> ?_
 simp only [cn_q] at h6
 refine Za1 (by omega) (by omega) (by omega) (by omega) fun p7 q7 e7 h7 y7 z7=> ?_
 rw [Zy Rat.le_refl,Zy Rat.le_refl] at e7
 rw [Zz Rat.le_refl,Zz Rat.le_refl] at h7
 refine⟨by kernel_rfl,?_⟩
 have hlh:l≤h:=by rw [el,eh];exact ZcO x y
 have hfin:([-1,1]:List Int).foldl (stp l h) (p7,q7)=sinS (slo x y) (shi x y):=by
  rw [e7,h7];subst_vars;rfl
 have hpq:p7≤q7:=by rw [e7,h7];subst_vars;exact ZnJ _ _
 refine⟨Nat×Rat×Rat,fun s=> [(21,.val (.one (.full [[.v (.int .i64 (-1))], [.v (.int .i64 1)]]))),(22,int 2),(23,int (s.1:Int)),(3,.val (.one (.ptr 3 0))),(2,.val (.one (.ptr 2 0))),(1,.val (.one (.ptr 1 0)))],
  fun s=> [(1,.var 28 (rc (cn l)++rc (cn h))),(2,.var 28 [.d (.v (.bool false)),.d (.v (.string ⟨#[]⟩)),.d (.v (.string ⟨#[]⟩)),.d (.v (.bool false)),.d (.v (.string ⟨#[]⟩)),.d (.v (.string ⟨#[]⟩))]),(3,.var 28 (rc (cn s.2.1)++rc (cn s.2.2)))],
  fun s=>s.1≤2∧qs s.2.1≤67108864+64*s.1∧qs s.2.2≤67108864+64*s.1∧s.2.1≤s.2.2∧(([-1,1]:List Int).drop s.1).foldl (stp l h) (s.2.1,s.2.2)=sinS (slo x y) (shi x y),
  fun s=>2 - s.1,(0,p7,q7),?_,⟨Nat.zero_le _,by simp only [cn_z] at*;omega,by simp only [cn_z] at*;omega,hpq,hfin⟩,fun s hs=> ?_⟩
 ·constructor<;>(repeat' (first|exact rfl|exact True.intro|apply And.intro))
 obtain⟨i,lo,hi⟩:=s
 obtain⟨g1,g2,g3,g4,g5⟩:=hs
 simp only at g1 g2 g3 g4 g5
 have w1:(cn lo).z≤134217728:=by rw [cn_z];omega
 have w2:(cn hi).z≤134217728:=by rw [cn_z];omega
 have w3:(cn l).z≤134217728:=by omega
 have w4:(cn h).z≤134217728:=by omega
 refine⟨fun e=> ?_,fun e=> ?_⟩
 ·have hlt:i< 2:=by have:=of_decide_eq_true e;omega
  obtain rfl|rfl:i=0∨i=1:=by omega
  ·refine k_at [.v (.int .i64 (-1))] (Int.natCast_nonneg _) rfl rfl ?_
   refine k_of (-1) (by omega) (by omega) fun q8 h8 z8=> ?_
   refine ZkA (x:=cn l) (y:=cn h) (by omega) (by omega) (by omega) fun b hb=> ?_
   rw [Zy hlh,Zz hlh,cn_q,h8] at hb
   refine⟨fun e1=> ?_,fun e1=> ?_⟩
   ·refine ZfD (by omega) fun q9 h9 z9=> ?_
    simp only [cn_q] at h9
    refine Za1 (x:=cn lo) (y:=cn hi) (by omega) (by omega) (by omega) (by omega) fun p10 q10 e10 h10 y10 z10=> ?_
    rw [Zy g4,Zy Rat.le_refl] at e10
    rw [Zz g4,Zz Rat.le_refl] at h10
    refine⟨by kernel_rfl,?_⟩
    have hst:stp l h (lo,hi) (-1)=(p10,q10):=by
     unfold stp
     rw [if_pos (by rw [← hb];exact e1),e10,h10,h9,h8]
    refine⟨(1,p10,q10),⟨by simp only;omega,?_,?_,?_,?_⟩,by simp only;omega,?_⟩
    ·simp only [cn_z] at*;omega
    ·simp only [cn_z] at*;omega
    ·simp only;rw [e10,h10];unfold minQ maxQ;split<;>split<;>grind
    ·simp only;rw [← hst];exact g5
    ·constructor<;>(repeat' (first|exact rfl|exact True.intro|apply And.intro))
   ·have hst:stp l h (lo,hi) (-1)=(lo,hi):=by
     unfold stp
     rw [if_neg (by rw [← hb];exact ne_true_of_eq_false e1)]
    refine⟨(1,lo,hi),⟨by simp only;omega,?_,?_,g4,?_⟩,by simp only;omega,?_⟩
    ·simp only;omega
    ·simp only;omega
    ·simp only;rw [← hst];exact g5
    ·constructor<;>(repeat' (first|exact rfl|exact True.intro|apply And.intro))
  ·refine k_at [.v (.int .i64 (1))] (Int.natCast_nonneg _) rfl rfl ?_
   refine k_of (1) (by omega) (by omega) fun q8 h8 z8=> ?_
   refine ZkA (x:=cn l) (y:=cn h) (by omega) (by omega) (by omega) fun b hb=> ?_
   rw [Zy hlh,Zz hlh,cn_q,h8] at hb
   refine⟨fun e1=> ?_,fun e1=> ?_⟩
   ·refine ZfD (by omega) fun q9 h9 z9=> ?_
    simp only [cn_q] at h9
    refine Za1 (x:=cn lo) (y:=cn hi) (by omega) (by omega) (by omega) (by omega) fun p10 q10 e10 h10 y10 z10=> ?_
    rw [Zy g4,Zy Rat.le_refl] at e10
    rw [Zz g4,Zz Rat.le_refl] at h10
    refine⟨by kernel_rfl,?_⟩
    have hst:stp l h (lo,hi) (1)=(p10,q10):=by
     unfold stp
     rw [if_pos (by rw [← hb];exact e1),e10,h10,h9,h8]
    refine⟨(2,p10,q10),⟨by simp only;omega,?_,?_,?_,?_⟩,by simp only;omega,?_⟩
    ·simp only [cn_z] at*;omega
    ·simp only [cn_z] at*;omega
    ·simp only;rw [e10,h10];unfold minQ maxQ;split<;>split<;>grind
    ·simp only;rw [← hst];exact g5
    ·constructor<;>(repeat' (first|exact rfl|exact True.intro|apply And.intro))
   ·have hst:stp l h (lo,hi) (1)=(lo,hi):=by
     unfold stp
     rw [if_neg (by rw [← hb];exact ne_true_of_eq_false e1)]
    refine⟨(2,lo,hi),⟨by simp only;omega,?_,?_,g4,?_⟩,by simp only;omega,?_⟩
    ·simp only;omega
    ·simp only;omega
    ·simp only;rw [← hst];exact g5
    ·constructor<;>(repeat' (first|exact rfl|exact True.intro|apply And.intro))
 ·obtain rfl:i=2:=by have:=of_decide_eq_false e;omega
  refine Eq.trans (b:=pair (cn lo) (cn hi)) ?_ rfl
  rw [← g5];rfl
theorem Zky (hx:x.z≤3145760) (hy:y.z≤3145760) (k:∀ p q,p=(sinS (slo x y) (shi x y)).1→q=(sinS (slo x y) (shi x y)).2→K (pair (cn p) (cn q))):Ask 35 [pair x y] K:=
 use (Ze7 x y hx hy) rfl (k _ _ rfl rfl)
end
end Go.Proofs.YtncoimmjjfmhdaaGreatDoor.eng
namespace Go.Proofs.YtncoimmjjfmhdaaGreatDoor.eng
open Go.RowKit num mem seg q held ratA ratB ratC ratD ratE vars ratF trq
section
variable {x y z t : RV} {K : AV → Prop}
theorem ZcT (l:List Rat):∀ row,row∈(l.map fun q=>rd (cn q))→row.length=3:=by
 intro row hr
 obtain⟨q,_,rfl⟩:=List.mem_map.1 hr
 rfl
def ext (l h:Rat) (e:List Rat) (n:Int):List Rat:=if hasQ l h (n:Rat)=true then e++ [(n:Rat)] else e
def sinE (l h:Rat):List Rat:=([1,-1]:List Int).foldl (ext l h) []
def sin7 (a b:Rat):List Rat→AV
 | []=> .val (.one (.full [rd (cn a),rd (cn b)]))
 |_ :: _=> .val (.one (.row 43 0))
def sinO (a b:Rat):List Rat→List (Nat×Ob)
 | []=> []
 |c :: r=> [(43,.row 24 3 0 ((a :: b :: c :: r).map fun q=>rd (cn q)) true)]
set_option maxHeartbeats 4000000 in
theorem ZgX (x y:RV) (hx:x.z≤1048576) (hy:y.z≤1048576):Spec Tryz.prog Tab 16 [pair x y] (pair (cn (lowL (sirc false (slo x y)) (sirc false (shi x y) :: sinE (slo x y) (shi x y)))) (cn (highL (sirc false (slo x y)) (sirc false (shi x y) :: sinE (slo x y) (shi x y))))):=by
 refine Zh Tryz.func16 rfl rfl Tryz.ntmps16 rfl (by kernel_rfl) rfl rfl ?_
 refine Zez (by omega) (by omega) fun l h el eh zl zh=> ?_
 refine ZbR (by omega) fun ca a e1 h1 y1 z1=> ?_
 refine ZbR (by omega) fun cb b e2 h2 y2 z2=> ?_
 simp only [cn_q] at h1 h2
 refine k_I (1) (by omega) (by omega) fun i1 j1 v1=> ?_
 refine k_I (-1) (by omega) (by omega) fun i2 j2 v2=> ?_
 rw [← el,← eh,← h1,← h2]
 refine⟨Nat×List Rat,fun s=> [(7,sin7 a b s.2),(31,.val (.one (.full [rd (cn i1),rd (cn i2)]))),(32,int 2),(33,int (s.1:Int)),(2,.val (.one (.ptr 2 0))),(1,.val (.one (.ptr 1 0)))],
  fun s=>(1,.var 28 (rc (cn l)++rc (cn h))) :: (2,.var 28 [.d (.v (.bool false)),.d (.v (.string ⟨#[]⟩)),.d (.v (.string ⟨#[]⟩)),.d (.v (.bool false)),.d (.v (.string ⟨#[]⟩)),.d (.v (.string ⟨#[]⟩))]) :: sinO a b s.2,
  fun s=>s.1≤2∧s.2.length≤s.1∧(∀ q,q∈s.2→qs q≤8)∧(([1,-1]:List Int).drop s.1).foldl (ext l h) s.2=sinE l h,
  fun s=>2 - s.1,(0, []),?_,⟨Nat.zero_le _,Nat.zero_le _,fun q hq=>by simp at hq,rfl⟩,fun s hs=> ?_⟩
 ·constructor<;>(repeat' (first|exact rfl|exact True.intro|apply And.intro))
 obtain⟨i,ex⟩:=s
 obtain⟨g1,g2,g3,g5⟩:=hs
 simp only at g1 g2 g3 g5
 have w3:(cn l).z≤134217728:=by omega
 have w4:(cn h).z≤134217728:=by omega
 refine⟨fun e=> ?_,fun e=> ?_⟩
 ·have hlt:i< 2:=by have:=of_decide_eq_true e;omega
  obtain rfl|rfl:i=0∨i=1:=by omega
  ·obtain rfl:ex= []:=List.eq_nil_of_length_eq_zero (by omega)
   refine k_at (rd (cn i1)) (Int.natCast_nonneg _) rfl rfl ?_
   refine Zmm (x:=cn l) (y:=cn h) (by omega) (by omega) (by omega) fun bb hb=> ?_
   simp only [cn_q] at hb
   refine⟨fun e1=> ?_,fun e1=> ?_⟩
   ·refine⟨⟨Nat.zero_lt_one,ZcT [a,b],ZcT [i1],Nat.le_of_ble_eq_true rfl,Nat.le_of_ble_eq_true rfl⟩,?_⟩
    have hst:ext l h [] (1)= [i1]:=by
     unfold ext
     rw [if_pos (by rw [← j1,← hb];exact e1),← j1];rfl
    refine⟨(1, [i1]),⟨by simp only;omega,by simp,?_,?_⟩,by simp only;omega,?_⟩
    ·intro q hq
     simp only [List.mem_cons,List.mem_nil_iff,or_false] at hq
     rw [hq,← cn_z];assumption
    ·simp only;rw [← hst];exact g5
    ·constructor<;>(repeat' (first|exact rfl|exact True.intro|apply And.intro))
   ·have hst:ext l h [] (1)= []:=by
     unfold ext
     rw [if_neg (by rw [← j1,← hb];exact ne_true_of_eq_false e1)]
    refine⟨(1, []),⟨by simp only;omega,by simp,g3,?_⟩,by simp only;omega,?_⟩
    ·simp only;rw [← hst];exact g5
    ·constructor<;>(repeat' (first|exact rfl|exact True.intro|apply And.intro))
  ·cases ex with
   |nil=>
    refine k_at (rd (cn i2)) (Int.natCast_nonneg _) rfl rfl ?_
    refine Zmm (x:=cn l) (y:=cn h) (by omega) (by omega) (by omega) fun bb hb=> ?_
    simp only [cn_q] at hb
    refine⟨fun e1=> ?_,fun e1=> ?_⟩
    ·refine⟨⟨Nat.zero_lt_one,ZcT [a,b],ZcT [i2],Nat.le_of_ble_eq_true rfl,Nat.le_of_ble_eq_true rfl⟩,?_⟩
     have hst:ext l h [] (-1)= [i2]:=by
      unfold ext
      rw [if_pos (by rw [← j2,← hb];exact e1),← j2];rfl
     refine⟨(2, [i2]),⟨by simp only;omega,by simp,?_,?_⟩,by simp only;omega,?_⟩
     ·intro q hq
      simp only [List.mem_cons,List.mem_nil_iff,or_false] at hq
      rw [hq,← cn_z];assumption
     ·simp only;rw [← hst];exact g5
     ·constructor<;>(repeat' (first|exact rfl|exact True.intro|apply And.intro))
    ·have hst:ext l h [] (-1)= []:=by
      unfold ext
      rw [if_neg (by rw [← j2,← hb];exact ne_true_of_eq_false e1)]
     refine⟨(2, []),⟨by simp only;omega,by simp,g3,?_⟩,by simp only;omega,?_⟩
     ·simp only;rw [← hst];exact g5
     ·constructor<;>(repeat' (first|exact rfl|exact True.intro|apply And.intro))
   |cons c r=>
    obtain rfl:r= []:=by simpa using g2
    refine k_at (rd (cn i2)) (Int.natCast_nonneg _) rfl rfl ?_
    refine Zmm (x:=cn l) (y:=cn h) (by omega) (by omega) (by omega) fun bb hb=> ?_
    simp only [cn_q] at hb
    refine⟨fun e1=> ?_,fun e1=> ?_⟩
    ·refine⟨⟨ZcT [i2],Nat.le_of_ble_eq_true rfl,Nat.le_of_ble_eq_true rfl⟩,?_⟩
     have hst:ext l h [c] (-1)= [c,i2]:=by
      unfold ext
      rw [if_pos (by rw [← j2,← hb];exact e1),← j2];rfl
     refine⟨(2, [c,i2]),⟨by simp only;omega,by simp,?_,?_⟩,by simp only;omega,?_⟩
     ·intro q hq
      simp only [List.mem_cons,List.mem_nil_iff,or_false] at hq
      rcases hq with rfl|rfl
      ·exact g3 _ (by simp)
      ·rw [← cn_z];assumption
     ·simp only;rw [← hst];exact g5
     ·constructor<;>(repeat' (first|exact rfl|exact True.intro|apply And.intro))
    ·have hst:ext l h [c] (-1)= [c]:=by
      unfold ext
      rw [if_neg (by rw [← j2,← hb];exact ne_true_of_eq_false e1)]
     refine⟨(2, [c]),⟨by simp only;omega,by simp,g3,?_⟩,by simp only;omega,?_⟩
     ·simp only;rw [← hst];exact g5
     ·constructor<;>(repeat' (first|exact rfl|exact True.intro|apply And.intro))
 ·obtain rfl:i=2:=by have:=of_decide_eq_false e;omega
  have hx2:ex=sinE l h:=g5
  have za:qs a≤1099511627776:=by rw [← cn_z];omega
  have zb:qs b≤1099511627776:=by rw [← cn_z];omega
  have hall:∀ q,q∈a :: b :: ex→qs q≤1099511627776:=by
   intro q hq
   rcases List.mem_cons.1 hq with rfl|hq
   ·exact za
   ·rcases List.mem_cons.1 hq with rfl|hq
    ·exact zb
    ·have:=g3 q hq;omega
  cases ex with
  |nil=>
   refine ZdU 1099511627776 (by decide) a [b] rfl hall (by simp) fun p9 q9 e9 h9 y9 z9=> ?_
   refine Eq.trans (b:=pair (cn _) (cn _)) ?_ rfl
   rw [← hx2,e9,h9]
  |cons c r=>
   refine ZdU 1099511627776 (by decide) a (b :: c :: r) rfl hall (by simp at g2 ⊢;omega) fun p9 q9 e9 h9 y9 z9=> ?_
   refine Eq.trans (b:=pair (cn _) (cn _)) ?_ rfl
   rw [← hx2,e9,h9]
theorem Zml (hx:x.z≤1048576) (hy:y.z≤1048576) (k:∀ p q,p=lowL (sirc false (slo x y)) (sirc false (shi x y) :: sinE (slo x y) (shi x y))→q=highL (sirc false (slo x y)) (sirc false (shi x y) :: sinE (slo x y) (shi x y))→K (pair (cn p) (cn q))):Ask 16 [pair x y] K:=
 use (ZgX x y hx hy) rfl (k _ _ rfl rfl)
end
end Go.Proofs.YtncoimmjjfmhdaaGreatDoor.eng
namespace Go.Proofs.YtncoimmjjfmhdaaGreatDoor.eng
open Go.RowKit num mem seg q held ratA ratB ratC ratD ratE vars ratF trq
section
variable {x y z t : RV} {K : AV → Prop}
theorem ZW (p:Rat):circ false p=cosF (p*p):=by rw [ZeM];rfl
theorem Zj9 {p:Rat} (h:0≤p):0< ((1:Int):Rat)+p:=by
 have h1:((1:Int):Rat)=1:=rfl
 rw [h1];grind
theorem Zaq {p q:Rat} (hp:0≤p) (h:p≤q):cosF q≤cosF p:=by
 have e:∀ r:Rat,0≤r→cosF r=((2:Int):Rat) / (((1:Int):Rat)+r) - ((1:Int):Rat):=by
  intro r hr
  have h0:=Zet hr
  unfold cosF
  have h2:((2:Int):Rat)=1+1:=by decide+kernel
  have h1:((1:Int):Rat)=1:=rfl
  rw [h2,h1] at*
  grind
 have hq:0≤q:=Rat.le_trans hp h
 rw [e p hp,e q hq]
 have a1:=Zj9 hp
 have a2:=Zj9 hq
 have h3:((2:Int):Rat) / (((1:Int):Rat)+q)≤((2:Int):Rat) / (((1:Int):Rat)+p):=by
  refine Rat.not_lt.1 fun hlt=> ?_
  rw [Rat.lt_div_iff a2] at hlt
  have h4:((2:Int):Rat) / (((1:Int):Rat)+p)*(((1:Int):Rat)+q)=((2:Int):Rat) / (((1:Int):Rat)+p)*(((1:Int):Rat)+p)+((2:Int):Rat) / (((1:Int):Rat)+p)*(q - p):=by grind
  have h5:((2:Int):Rat) / (((1:Int):Rat)+p)*(((1:Int):Rat)+p)=((2:Int):Rat):=Rat.div_mul_cancel (Zet hp)
  rw [h4,h5] at hlt
  have h6:0≤((2:Int):Rat) / (((1:Int):Rat)+p):=by
   rw [Rat.div_def]
   exact Rat.mul_nonneg (by decide+kernel) (Rat.le_of_lt (Rat.inv_pos.2 a1))
  have h7:=Rat.mul_nonneg h6 (by grind:0≤q - p)
  grind
 grind
theorem ZbW:cosF ((0:Int):Rat)=((1:Int):Rat):=by decide+kernel
theorem Zk3 (l h:Rat):cosF (sqHi l h)=cosL l h:=by
 have hm:sqHi l h=l*l∨sqHi l h∈ [h*h]:=Zc7 _ _
 obtain⟨g1,g2⟩:=ZaO [h*h] (l*l)
 have g2:=g2 _ List.mem_cons_self
 have n1:=ZcJ l h
 have k1:cosF (sqHi l h)≤circ false l:=by rw [ZW];exact Zaq (sq_nonneg' l) g1
 have k2:cosF (sqHi l h)≤circ false h:=by rw [ZW];exact Zaq (sq_nonneg' h) g2
 have k3:cosF (sqHi l h)≤((1:Int):Rat):=by rw [← ZbW];exact Zaq (by decide+kernel) n1
 have hmem:cosF (sqHi l h)=circ false l∨cosF (sqHi l h)=circ false h:=by
  rcases hm with hm|hm
  ·exact .inl (by rw [hm,ZW])
  ·exact .inr (by rw [ZW];simp at hm;rw [hm])
 unfold cosL
 split
 ·refine(ZhA ?_ k1 ?_).symm
  ·rcases hmem with h|h
   ·exact .inl h
   ·exact .inr (by rw [h];simp)
  ·simp only [List.mem_cons,List.mem_nil_iff,or_false]
   rintro q (rfl|rfl)<;>assumption
 ·refine(ZhA ?_ k1 ?_).symm
  ·rcases hmem with h|h
   ·exact .inl h
   ·exact .inr (by rw [h];simp)
  ·simp only [List.mem_cons,List.mem_nil_iff,or_false]
   rintro q rfl;assumption
theorem Zh1 (l h:Rat):cosF (sqLo l h)=cosH l h:=by
 unfold cosH sqLo
 split
 ·rename_i h0
  rw [ZbW]
  have c1:circ false l≤((1:Int):Rat):=by rw [ZW,← ZbW];exact Zaq (by decide+kernel) (sq_nonneg' l)
  have c2:circ false h≤((1:Int):Rat):=by rw [ZW,← ZbW];exact Zaq (by decide+kernel) (sq_nonneg' h)
  refine(ZeC (.inr (by simp)) c1 ?_).symm
  simp only [List.mem_cons,List.mem_nil_iff,or_false]
  rintro q (rfl|rfl)
  ·exact c2
  ·exact Rat.le_refl
 ·rename_i h0
  obtain⟨g1,g2⟩:=Zb4 [h*h] (l*l)
  have g2:=g2 _ List.mem_cons_self
  have n1:0≤lowL (l*l) [h*h]:=by
   have:=ZcI l h
   unfold sqLo at this
   rwa [if_neg h0] at this
  refine(ZeC ?_ ?_ ?_).symm
  ·rcases Zcw [h*h] (l*l) with hm|hm
   ·exact .inl (by rw [hm,ZW])
   ·exact .inr (by simp at hm;rw [hm,ZW];simp)
  ·rw [ZW];exact Zaq n1 g1
  ·simp only [List.mem_cons,List.mem_nil_iff,or_false]
   rintro q rfl
   rw [ZW];exact Zaq n1 g2
theorem Zkm (m a b:Rat):lowF (lowF m a) b=lowF (lowF m b) a:=by unfold lowF;grind
theorem ZiM (m a b:Rat):highF (highF m a) b=highF (highF m b) a:=by unfold highF;grind
theorem Ze6 (l h:Rat):(sinS l h).1=lowL (sirc false l) (sirc false h :: sinE l h)∧(sinS l h).2=highL (sirc false l) (sirc false h :: sinE l h):=by
 have e1:sinq l=sirc false l:=(Zhf false l).symm
 have e2:sinq h=sirc false h:=(Zhf false h).symm
 unfold sinS sinE
 simp only [List.foldl_cons,List.foldl_nil]
 rw [e1,e2,Zbq,Zaj]
 generalize sirc false l=a
 generalize sirc false h=b
 unfold stp ext
 by_cases c1:hasQ l h ((1:Int):Rat)=true<;>by_cases c2:hasQ l h ((-1:Int):Rat)=true
 ·simp only [if_pos c1,if_pos c2,Zbq,Zaj]
  exact⟨Zkm _ _ _,ZiM _ _ _⟩
 ·simp only [if_pos c1,if_neg c2,Zbq,Zaj]
  exact⟨rfl,rfl⟩
 ·simp only [if_neg c1,if_pos c2,Zbq,Zaj]
  exact⟨rfl,rfl⟩
 ·simp only [if_neg c1,if_neg c2]
  exact⟨rfl,rfl⟩
end
end Go.Proofs.YtncoimmjjfmhdaaGreatDoor.eng
