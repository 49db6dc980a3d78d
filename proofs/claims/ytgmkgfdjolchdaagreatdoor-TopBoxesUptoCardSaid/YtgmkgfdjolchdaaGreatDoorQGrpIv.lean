/- Joined by wip/bundle.py: XInv0 XInvA XInvB. -/
import Derived.Test.YtgmkgfdjolchdaaGreatDoorQGrpSr
set_option maxHeartbeats 4000000
set_option maxRecDepth 100000
namespace Go.Proofs.YtgmkgfdjolchdaaGreatDoor.eng
open Go.RowKit num mem seg q held ratA ratB ratC ratD ratE vars ratF prf trq
def zOb (l:List Rat):Bool:=decide (l.length≤1048576)&&l.all fun c=>decide (qs c≤1048576)
theorem Zcp {l:List Rat} (h:zOb l=true):zO l:=by
 unfold zOb at h
 rw [Bool.and_eq_true] at h
 exact⟨of_decide_eq_true h.1,fun c hc=>of_decide_eq_true (List.all_eq_true.1 h.2 c hc)⟩
def dvb (p q:List Rat) (n:Nat):Bool:=((List.range (n+1)).all fun t=>((dvS p q t).1.all fun c=>decide (qs c≤1048576))&&((dvS p q t).2.all fun c=>decide (qs c≤1048576)))&&decide (dvS p q (n+1)=dvS p q n)
theorem ZoC {p q:List Rat} {n:Nat} (h:dvb p q n=true):dvZ p q:=by
 unfold dvb at h
 rw [Bool.and_eq_true] at h
 obtain⟨h1,h2⟩:=h
 have h2:=of_decide_eq_true h2
 have fin:∀ k,dvS p q (n+k)=dvS p q n:=fun k=>by
  induction k with
  |zero=>rfl
  |succ k ih=>show dvT q (dvS p q (n+k))=_;rw [ih];exact h2
 have low:∀ t,t≤n→(∀ c,c∈(dvS p q t).1→qs c≤1048576)∧∀ c,c∈(dvS p q t).2→qs c≤1048576:=fun t ht=>by
  have:=List.all_eq_true.1 h1 t (List.mem_range.2 ω)
  rw [Bool.and_eq_true] at this
  exact⟨fun c hc=>of_decide_eq_true (List.all_eq_true.1 this.1 c hc),fun c hc=>of_decide_eq_true (List.all_eq_true.1 this.2 c hc)⟩
 intro t
 by_cases ht:t≤n
 ·exact low t ht
 ·have:=fin (t - n)
  rw [show n+(t - n)=t by omega] at this
  rw [this];exact low n (Nat.le_refl _)
def plb (p:List Rat) (n m:Nat):Bool:=decide ((plS p n).2= [])&&(((List.range (n+1)).all fun t=>zOb (plS p t).1&&(zOb (plS p t).2&&dvb (plS p t).1 (plS p t).2 m))&&(dvb p (plF p).1 m&&zOb (dvF p (plF p).1).1))
theorem ZuA {p:List Rat} {n m:Nat} (h:plb p n m=true):plZ p:=by
 unfold plb at h
 simp only [Bool.and_eq_true] at h
 obtain⟨h1,h2,h3,h4⟩:=h
 have h1:=of_decide_eq_true h1
 have low:∀ t,t≤n→zO (plS p t).1∧zO (plS p t).2∧dvZ (plS p t).1 (plS p t).2:=fun t ht=>by
  have:=List.all_eq_true.1 h2 t (List.mem_range.2 ω)
  simp only [Bool.and_eq_true] at this
  exact⟨Zcp this.1,Zcp this.2.1,ZoC this.2.2⟩
 refine⟨fun t=> ?_,ZoC h3,Zcp h4⟩
 by_cases ht:t≤n
 ·exact low t ht
 ·rw [Zix h1 t ω];exact low n (Nat.le_refl _)
def cnb (p:List Rat) (n m:Nat):Bool:=zOb p&&(decide ((cnS p n).2= [])&&((List.range (n+1)).all fun t=>zOb (cnS p t).2&&(((cnS p t).1.all fun a=>zOb a)&&(zOb (scQ (cnS p t).2)&&dvb (lsC (cnS p t).1) (scQ (cnS p t).2) m))))
theorem ZvA {p:List Rat} {n m:Nat} (h:cnb p n m=true):cnZ p:=by
 unfold cnb at h
 simp only [Bool.and_eq_true] at h
 obtain⟨h0,h1,h2⟩:=h
 have h1:=of_decide_eq_true h1
 have low:∀ t,t≤n→zO (cnS p t).2∧(∀ a,a∈(cnS p t).1→zO a)∧zO (scQ (cnS p t).2)∧dvZ (lsC (cnS p t).1) (scQ (cnS p t).2):=fun t ht=>by
  have:=List.all_eq_true.1 h2 t (List.mem_range.2 ω)
  simp only [Bool.and_eq_true] at this
  exact⟨Zcp this.1,fun a ha=>Zcp (List.all_eq_true.1 this.2.1 a ha),Zcp this.2.2.1,ZoC this.2.2.2⟩
 refine⟨Zcp h0,fun t=> ?_⟩
 by_cases ht:t≤n
 ·exact low t ht
 ·rw [ZoT h1 t ω];exact low n (Nat.le_refl _)
def chb (C:List (List Rat)):Bool:=decide (C.length≤1048576)&&C.all fun p=>zOb p
theorem ZvC {C:List (List Rat)} (h:chb C=true):chZ C:=by
 unfold chb at h
 rw [Bool.and_eq_true] at h
 exact⟨of_decide_eq_true h.1,fun p hp=>Zcp (List.all_eq_true.1 h.2 p hp)⟩
def rdyB (p:List Rat) (C:List (List Rat)) (n m:Nat):Bool:=
 zOb p&&(decide (trP p≠ [])&&(decide ((trP p).length≤13)&&(plb (trP p) n m&&(decide (plQ (trP p)≠ [])&&(cnb (plQ (trP p)) n m&&(decide (cnF (plQ (trP p))=C)&&(chb C&&decide (0< C.length))))))))
theorem Zii {p:List Rat} {C:List (List Rat)} {n m:Nat} (h:rdyB p C n m=true):RdyOk p C:=by
 unfold rdyB at h
 simp only [Bool.and_eq_true] at h
 obtain⟨h1,h2,h3,h4,h5,h6,h7,h8,h9⟩:=h
 exact⟨Zcp h1,of_decide_eq_true h2,of_decide_eq_true h3,ZuA h4,of_decide_eq_true h5,ZvA h6,of_decide_eq_true h7,ZvC h8,of_decide_eq_true h9⟩
def sepR (C:List (List Rat)):Nat→List (Rat×Rat)→Nat→Option (List (Rat×Rat))
 |0,R,i=>if R.length≤i then some R else none
 |n+1,R,i=>if i< R.length then (if (stAt R (i - 1)).2< (stAt R i).1 then (if qs (stAt R (i - 1)).2≤400000∧qs (stAt R i).1≤400000 then sepR C n R (i+1) else none)
   else (if (qs (stAt R (i - 1)).1≤400000∧qs (stAt R (i - 1)).2≤400000)∧qs (stAt R i).1≤400000∧qs (stAt R i).2≤400000 then sepR C n (spStep C R i) i else none)) else none
theorem ZfG {C:List (List Rat)} {R':List (Rat×Rat)}:∀ {n:Nat} {R:List (Rat×Rat)} {i:Nat},sepR C n R i=some R'→Sep C n R i R'
 |0,R,i,h=>by
  unfold sepR at h
  split at h
  ·rename_i g;rw [← Option.some.inj h];exact Sep.done g
  ·simp at h
 |n+1,R,i,h=>by
  unfold sepR at h
  split at h
  ·rename_i g
   split at h
   ·rename_i g2
    split at h
    ·rename_i g3;exact Sep.next g g2 g3 (ZfG h)
    ·simp at h
   ·rename_i g2
    split at h
    ·rename_i g3;exact Sep.halve g g2 g3.1 g3.2 (ZfG h)
    ·simp at h
  ·simp at h
section
variable {K : AV → Prop}
theorem Zlz (x:RV)  (hx:x.z≤1099511627776):Spec Tryz.prog Tab 131 [rat x] (rat (cn (x.q*x.q))):=by
 refine Za Tryz.func131 rfl rfl Tryz.ntmps131 rfl ωr rfl rfl ?_
 refine Z3 (x:=x) (y:=x) ω ω fun q5 h5 z5=> ?_
 simp only [cn_z] at z5
 refine Eq.trans (b:=rat (cn q5)) ?_ rfl
 subst_vars;rfl
section
variable {x : RV} 
theorem Zf5 (hx:x.z≤1099511627776) (k:∀ q,q=x.q*x.q→(cn q).z≤2*x.z+3→K (rat (cn q))):Ask 131 [rat x] K:=
 use (Zlz x  hx) rfl (k _ rfl (by rw [cn_z];have:=x.z1;have:=Zp x.q x.q;omega))
end
theorem Zds {p:List Rat} {C:List (List Rat)} (h:RdyOk p C) {x y:Rat} (hx:qs x≤400000) (hy:qs y≤400000) (hxy:x≤y) (hc:ctN C x y=1) {n:Nat} (hF:FnOk C (x,y) ((1:Rat) / 1000) n):Spec Tryz.prog Tab 54 [.val (.agg [.d (.list (List.map rdc p)),.d (.v (.bool (cn x).s)),.d (.v (.string (cn x).a)),.d (.v (.string (cn x).d)),.d (.v (.bool (cn y).s)),.d (.v (.string (cn y).a)),.d (.v (.string (cn y).d))]),int 1000] (.val (.agg [.d (.list (List.map rdc p)),.d (.v (.bool (cn ((hvN C (x,y) n).1)).s)),.d (.v (.string (cn ((hvN C (x,y) n).1)).a)),.d (.v (.string (cn ((hvN C (x,y) n).1)).d)),.d (.v (.bool (cn ((hvN C (x,y) n).2)).s)),.d (.v (.string (cn ((hvN C (x,y) n).2)).a)),.d (.v (.string (cn ((hvN C (x,y) n).2)).d))])):=by
 refine Za Tryz.func54 rfl rfl Tryz.ntmps54 rfl ωr rfl rfl ?_
 refine ZrQ 1 1000 ω ω ω ω ωk fun q11 h11 _=> ?_
 obtain rfl:q11=((1:Rat) / 1000):=by rw [h11];decide+kernel
 refine use (Ztj h hx hy hxy (w:=((1:Rat) / 1000)) ωk ωk hc hF) rfl ?_
 refine⟨fun _=> ?_,fun e=>absurd e ωd⟩
 refine Eq.trans (b:= .val (.agg [.d (.list (List.map rdc p)),.d (.v (.bool (cn (hvN C (x,y) n).1).s)),.d (.v (.string (cn (hvN C (x,y) n).1).a)),.d (.v (.string (cn (hvN C (x,y) n).1).d)),.d (.v (.bool (cn (hvN C (x,y) n).2).s)),.d (.v (.string (cn (hvN C (x,y) n).2).a)),.d (.v (.string (cn (hvN C (x,y) n).2).d))])) ?_ rfl
 rfl
theorem ZbV {p:List Rat} {C:List (List Rat)} (h:RdyOk p C) {x y lo hi a b:Rat} (hx:qs x≤400000) (hy:qs y≤400000) (hlo:qs lo≤400000) (hhi:qs hi≤400000) (ha:maxQ x lo=a) (hb:minQ y hi=b) (hza:qs a≤400000) (hzb:qs b≤400000) (hab:a≤b) (hc:ctN C a b=1):Spec Tryz.prog Tab 97 [.val (.agg [.d (.list (List.map rdc p)),.d (.v (.bool (cn x).s)),.d (.v (.string (cn x).a)),.d (.v (.string (cn x).d)),.d (.v (.bool (cn y).s)),.d (.v (.string (cn y).a)),.d (.v (.string (cn y).d))]),rat (cn lo),rat (cn hi)] (bool true):=by
 refine Za Tryz.func97 rfl rfl Tryz.ntmps97 rfl ωr rfl rfl ?_
 refine ZiP (x:=cn x) (y:=cn lo) ωn ωn fun q14 h14 _=> ?_
 obtain rfl:a=q14:=by rw [h14];simp only [cn_q];exact ha.symm
 refine ZiO (x:=cn y) (y:=cn hi) ωn ωn fun q19 h19 _=> ?_
 obtain rfl:b=q19:=by rw [h19];simp only [cn_q];exact hb.symm
 refine⟨ωr,?_⟩
 refine Zc7 (x:=cn a) (y:=cn b) ωn ωn fun n25 h25=> ?_
 simp only [cn_q] at h25
 refine⟨fun e1=> ?_,fun e1=> ?_⟩
 ·have f26:b< a:=(ZhD h25).1 (of_decide_eq_true e1)
  exfalso
  exact absurd hab (Rat.not_le.2 f26)
 ·have f26:¬ (b< a):=fun hh=>of_decide_eq_false e1 ((ZhD h25).2 hh)
  have hco:=ZkG h hza hzb hab
  rw [hc] at hco
  refine use hco rfl ?_
  refine Eq.trans (b:=bool true) ?_ rfl
  rfl
theorem ZjG {p:List Rat} {C:List (List Rat)} (h:RdyOk [(0:Rat),(-10:Rat),(0:Rat)] C) {x y:Rat} (hx:qs x≤400000) (hy:qs y≤400000) (hxy:x≤y) (hc:ctN C x y=0) {s:Int} (hez:qs (evP [(0:Rat),(-10:Rat),(0:Rat)] x)≤4398046511104) (hsg:sgnQ (evP [(0:Rat),(-10:Rat),(0:Rat)] x)=s):Spec Tryz.prog Tab 133 [.val (.agg [.d (.list (List.map rdc p)),.d (.v (.bool (cn x).s)),.d (.v (.string (cn x).a)),.d (.v (.string (cn x).d)),.d (.v (.bool (cn y).s)),.d (.v (.string (cn y).a)),.d (.v (.string (cn y).d))]),pair (cn (5:Rat)) (cn (0:Rat))] (int s):=by
 refine Za Tryz.func133 rfl rfl Tryz.ntmps133 rfl ωr rfl rfl ?_
 refine k_of (-2) ω ω fun q11 h11 _=> ?_
 obtain rfl:q11=(-2:Rat):=by rw [h11];decide+kernel
 refine Z3 (x:=cn (-2:Rat)) (y:=cn (5:Rat)) ωc ωc fun q14 h14 _=> ?_
 obtain rfl:q14=(-10:Rat):=by rw [h14];simp only [cn_q];decide+kernel
 refine Zdo (x:=cn (0:Rat)) ωc fun q17 h17 _=> ?_
 obtain rfl:q17=(0:Rat):=by rw [h17];simp only [cn_q];decide+kernel
 refine⟨ωr,?_⟩
 refine⟨Nat,fun i=> [(2,.val (.one (.ptr 2 0))),(5,.val (.one (.full ([[D.v (.bool (cn (0:Rat)).s),D.v (.string (cn (0:Rat)).a),D.v (.string (cn (0:Rat)).d)], [D.v (.bool (cn (-10:Rat)).s),D.v (.string (cn (-10:Rat)).a),D.v (.string (cn (-10:Rat)).d)], [D.v (.bool (cn (0:Rat)).s),D.v (.string (cn (0:Rat)).a),D.v (.string (cn (0:Rat)).d)]]))))],
  fun i=> [(2,.var 121 [.d (.list (List.map rdc p)),.d (.v (.bool (cn x).s)),.d (.v (.string (cn x).a)),.d (.v (.string (cn x).d)),.d (.v (.bool (cn y).s)),.d (.v (.string (cn y).a)),.d (.v (.string (cn y).d))])],fun i=>i=0,fun i=>1 - i,0,?_,rfl,fun i hs=> ?_⟩
 ·exact ωe
 have hco:=ZkG h hx hy hxy
 rw [hc] at hco
 refine use hco rfl ?_
 refine⟨fun _=> ?_,fun e=>absurd e ωd⟩
 refine Zf6 (p:= [(0:Rat),(-10:Rat),(0:Rat)]) (x:=cn x) ⟨ωd,by decide+kernel⟩ ωn fun q34 h34 _=> ?_
 refine ZaY (x:=cn q34) (by rw [cn_z,h34,cn_q];exact hez) fun n35 h35=> ?_
 obtain rfl:s=n35:=by rw [h35,cn_q,h34,cn_q];exact hsg.symm
 refine Eq.trans (b:=int s) ?_ rfl
 rfl
end
section
variable {K : AV → Prop}
abbrev q1T:List Rat:= [(-12:Rat),(0:Rat),(48:Rat)]
abbrev p1T:List Rat:= [(-24:Rat),(0:Rat),(24:Rat)]
abbrev c1T:List (List Rat):= [[1 / 4,0,-1], [0,-1], [-1]]
abbrev c2T:List (List Rat):= [[1,0,-1], [0,-1], [-1]]
abbrev c3T:List (List Rat):= [[0,1], [1]]
theorem rdy1T:RdyOk q1T c1T:=Zii (n:=3) (m:=5) ωk
theorem rdy2T:RdyOk p1T c2T:=Zii (n:=3) (m:=5) ωk
theorem rdy3T:RdyOk [(0:Rat),(-10:Rat),(0:Rat)] c3T:=Zii (n:=3) (m:=5) ωk
theorem spl1T:Spl c1T (-9 / 4) (9 / 4) [(-9 / 4,0),(0,9 / 4)]:=
 Spl.two (L1:= [(-9 / 4,0)]) (L2:= [(0,9 / 4)]) ωk ωk ωk ωk ωk
  (by rw [show mdQ (-9 / 4) (9 / 4)=0 from by decide+kernel];exact Spl.one ωk ωk ωk)
  (by rw [show mdQ (-9 / 4) (9 / 4)=0 from by decide+kernel];exact Spl.one ωk ωk ωk)
theorem spl2T:Spl c2T (-3) 3 [(-3,0),(0,3)]:=
 Spl.two (L1:= [(-3,0)]) (L2:= [(0,3)]) ωk ωk ωk ωk ωk
  (by rw [show mdQ (-3) 3=0 from by decide+kernel];exact Spl.one ωk ωk ωk)
  (by rw [show mdQ (-3) 3=0 from by decide+kernel];exact Spl.one ωk ωk ωk)
theorem sep1T:Sep c1T 4 [(-9 / 4,0),(0,9 / 4)] 1 [(-9 / 16,-9 / 32),(9 / 32,9 / 16)]:=ZfG ωk
theorem sep2T:Sep c2T 3 [(-3,0),(0,3)] 1 [(-3 / 2,-3 / 4),(3 / 4,3 / 2)]:=ZfG ωk
theorem msT {c:List Rat} {B:Nat} (h:(List.range (c.length+1)).all (fun i=>decide (qs (msF c i)≤B))=true) (i:Nat):qs (msF c i)≤B:=by
 by_cases hi:i≤c.length
 ·exact of_decide_eq_true (List.all_eq_true.1 h i (List.mem_range.2 ω))
 ·have e:msF c i=msF c c.length:=by unfold msF;rw [List.take_of_length_le ω,List.take_length]
  rw [e];exact of_decide_eq_true (List.all_eq_true.1 h c.length (List.mem_range.2 ω))
theorem roots1T:Spec Tryz.prog Tab 132 [.val (.one (.d (.list (List.map rdc q1T))))] (.tup [.one (.d (.list (List.map spD [((-9 / 16:Rat),(-9 / 32:Rat)),(9 / 32,9 / 16)]))),.one (.d (.v (.int .i64 (0))))]):=
 ZjH rdy1T (M:=9 / 4) ωk (msT ωk) (by have h:=(Zgv rdy1T.chz rdy1T.pos spl1T ωd).2.1 (by simp);rw [show (-(9 / 4:Rat))=-9 / 4 from by decide+kernel];exact h) ωd sep1T
theorem roots2T:Spec Tryz.prog Tab 132 [.val (.one (.d (.list (List.map rdc p1T))))] (.tup [.one (.d (.list (List.map spD [((-3 / 2:Rat),(-3 / 4:Rat)),(3 / 4,3 / 2)]))),.one (.d (.v (.int .i64 (0))))]):=
 ZjH rdy2T (M:=3) ωk (msT ωk) (by have h:=(Zgv rdy2T.chz rdy2T.pos spl2T ωd).2.1 (by simp);exact h) ωd sep2T
abbrev r1T:List (Rat×Rat):= [(((-9:Rat) / 16),((-9:Rat) / 32)),(((9:Rat) / 32),((9:Rat) / 16))]
abbrev r2T:List (Rat×Rat):= [(((-3:Rat) / 2),((-3:Rat) / 4)),(((3:Rat) / 4),((3:Rat) / 2))]
def prD (x:(Rat×Rat)×(Rat×Rat)):List D:=D.list (List.map rdc q1T) :: (spD x.1++D.list (List.map rdc p1T) :: spD x.2)
def prL:Nat→List ((Rat×Rat)×(Rat×Rat))
 |0=> []
 |1=> [((((-9:Rat) / 16),((-9:Rat) / 32)),(((3:Rat) / 4),((3:Rat) / 2)))]
 |_=> [((((-9:Rat) / 16),((-9:Rat) / 32)),(((3:Rat) / 4),((3:Rat) / 2))),((((9:Rat) / 32),((9:Rat) / 16)),(((-3:Rat) / 2),((-3:Rat) / 4)))]
theorem dot2T  :Spec Tryz.prog Tab 130 [pair (cn (5:Rat)) (cn (0:Rat))] (rat (cn (25:Rat))):=by
 refine Za Tryz.func130 rfl rfl Tryz.ntmps130 rfl ωr rfl rfl ?_
 refine ZuU (x:=cn (5:Rat)) (y:=cn (0:Rat)) (z:=cn (5:Rat)) (t:=cn (0:Rat)) ωc ωc ωc ωc fun q5 h5 _=> ?_
 obtain rfl:q5=(25:Rat):=by rw [h5];simp only [cn_q];decide+kernel
 refine Eq.trans (b:=rat (cn (25:Rat))) ?_ rfl
 rfl
theorem solveT  :Spec Tryz.prog Tab 96 [rat (cn (3:Rat)),rat (cn (4:Rat)),pair (cn (5:Rat)) (cn (0:Rat))] (.val (.one (.d (.list (List.map prD (prL 2)))))):=by
 have l1:(List.map spD r1T).length=2:=rfl
 have l2:(List.map spD r2T).length=2:=rfl
 have l3:(List.map prD (prL 0)).length=0:=rfl
 have l4:(List.map prD (prL 1)).length=1:=rfl
 refine Za Tryz.func96 rfl rfl Tryz.ntmps96 rfl ωr rfl rfl ?_
 refine use dot2T rfl ?_
 refine ZaJ (x:=cn (3:Rat)) (y:=cn (4:Rat)) ωc ωc fun q26 h26 _=> ?_
 obtain rfl:q26=(7:Rat):=by rw [h26];simp only [cn_q];decide+kernel
 refine Zf5 (x:=cn (7:Rat)) ωc fun q27 h27 _=> ?_
 obtain rfl:q27=(49:Rat):=by rw [h27];simp only [cn_q];decide+kernel
 refine Zap (x:=cn (25:Rat)) (y:=cn (49:Rat)) ωc ωc fun q28 h28 _=> ?_
 obtain rfl:q28=(-24:Rat):=by rw [h28];simp only [cn_q];decide+kernel
 refine k_of (0) ω ω fun q29 h29 _=> ?_
 obtain rfl:q29=(0:Rat):=by rw [h29];decide+kernel
 refine Zap (x:=cn (3:Rat)) (y:=cn (4:Rat)) ωc ωc fun q33 h33 _=> ?_
 obtain rfl:q33=(-1:Rat):=by rw [h33];simp only [cn_q];decide+kernel
 refine Zf5 (x:=cn (-1:Rat)) ωc fun q34 h34 _=> ?_
 obtain rfl:q34=(1:Rat):=by rw [h34];simp only [cn_q];decide+kernel
 refine Zap (x:=cn (25:Rat)) (y:=cn (1:Rat)) ωc ωc fun q35 h35 _=> ?_
 obtain rfl:q35=(24:Rat):=by rw [h35];simp only [cn_q];decide+kernel
 refine⟨ωr,?_⟩
 refine k_ix 0 [D.v (.bool (cn (-24:Rat)).s),D.v (.string (cn (-24:Rat)).a),D.v (.string (cn (-24:Rat)).d)] ωf rfl rfl ?_
 refine ZaY (x:=cn (-24:Rat)) ωc fun n40 h40=> ?_
 obtain rfl:n40=(-1):=by rw [h40];simp only [cn_q];decide+kernel
 refine k_ix 2 [D.v (.bool (cn (24:Rat)).s),D.v (.string (cn (24:Rat)).a),D.v (.string (cn (24:Rat)).d)] ωf rfl rfl ?_
 refine ZaY (x:=cn (24:Rat)) ωc fun n46 h46=> ?_
 obtain rfl:n46=(1):=by rw [h46];simp only [cn_q];decide+kernel
 refine⟨fun e=>absurd e ωd,fun _=> ?_⟩
 refine Zf5 (x:=cn (3:Rat)) ωc fun q51 h51 _=> ?_
 obtain rfl:q51=(9:Rat):=by rw [h51];simp only [cn_q];decide+kernel
 refine ZaJ (x:=cn (25:Rat)) (y:=cn (9:Rat)) ωc ωc fun q52 h52 _=> ?_
 obtain rfl:q52=(34:Rat):=by rw [h52];simp only [cn_q];decide+kernel
 refine Zf5 (x:=cn (4:Rat)) ωc fun q54 h54 _=> ?_
 obtain rfl:q54=(16:Rat):=by rw [h54];simp only [cn_q];decide+kernel
 refine Zap (x:=cn (34:Rat)) (y:=cn (16:Rat)) ωc ωc fun q55 h55 _=> ?_
 obtain rfl:q55=(18:Rat):=by rw [h55];simp only [cn_q];decide+kernel
 refine⟨ωr,?_⟩
 refine k_of (2) ω ω fun q56 h56 _=> ?_
 obtain rfl:q56=(2:Rat):=by rw [h56];decide+kernel
 refine Z3 (x:=cn (3:Rat)) (y:=cn (5:Rat)) ωc ωc fun q60 h60 _=> ?_
 obtain rfl:q60=(15:Rat):=by rw [h60];simp only [cn_q];decide+kernel
 refine Z3 (x:=cn (2:Rat)) (y:=cn (15:Rat)) ωc ωc fun q61 h61 _=> ?_
 obtain rfl:q61=(30:Rat):=by rw [h61];simp only [cn_q];decide+kernel
 refine⟨ωr,?_⟩
 refine Zap (x:=cn (18:Rat)) (y:=cn (30:Rat)) ωc ωc fun q64 h64 _=> ?_
 obtain rfl:q64=(-12:Rat):=by rw [h64];simp only [cn_q];decide+kernel
 refine k_of (-4) ω ω fun q65 h65 _=> ?_
 obtain rfl:q65=(-4:Rat):=by rw [h65];decide+kernel
 refine Z3 (x:=cn (3:Rat)) (y:=cn (0:Rat)) ωc ωc fun q69 h69 _=> ?_
 obtain rfl:q69=(0:Rat):=by rw [h69];simp only [cn_q];decide+kernel
 refine Z3 (x:=cn (-4:Rat)) (y:=cn (0:Rat)) ωc ωc fun q70 h70 _=> ?_
 obtain rfl:q70=(0:Rat):=by rw [h70];simp only [cn_q];decide+kernel
 refine ZaJ (x:=cn (18:Rat)) (y:=cn (30:Rat)) ωc ωc fun q73 h73 _=> ?_
 obtain rfl:q73=(48:Rat):=by rw [h73];simp only [cn_q];decide+kernel
 refine⟨ωr,?_⟩
 refine use roots1T rfl ?_
 refine use roots2T rfl ?_
 refine⟨Nat,fun i=> [(5,.val (.one (.ptr 5 0))),(8,.val (.one (.full ([[D.v (.bool (cn (-24:Rat)).s),D.v (.string (cn (-24:Rat)).a),D.v (.string (cn (-24:Rat)).d)], [D.v (.bool (cn (0:Rat)).s),D.v (.string (cn (0:Rat)).a),D.v (.string (cn (0:Rat)).d)], [D.v (.bool (cn (24:Rat)).s),D.v (.string (cn (24:Rat)).a),D.v (.string (cn (24:Rat)).d)]])))),(11,.val (.one (.full ([[D.v (.bool (cn (-12:Rat)).s),D.v (.string (cn (-12:Rat)).a),D.v (.string (cn (-12:Rat)).d)], [D.v (.bool (cn (0:Rat)).s),D.v (.string (cn (0:Rat)).a),D.v (.string (cn (0:Rat)).d)], [D.v (.bool (cn (48:Rat)).s),D.v (.string (cn (48:Rat)).a),D.v (.string (cn (48:Rat)).d)]])))),(14,.val (.one (.d (.list ([[D.v (.bool (cn ((-3:Rat) / 2)).s),D.v (.string (cn ((-3:Rat) / 2)).a),D.v (.string (cn ((-3:Rat) / 2)).d),D.v (.bool (cn ((-3:Rat) / 4)).s),D.v (.string (cn ((-3:Rat) / 4)).a),D.v (.string (cn ((-3:Rat) / 4)).d)], [D.v (.bool (cn ((3:Rat) / 4)).s),D.v (.string (cn ((3:Rat) / 4)).a),D.v (.string (cn ((3:Rat) / 4)).d),D.v (.bool (cn ((3:Rat) / 2)).s),D.v (.string (cn ((3:Rat) / 2)).a),D.v (.string (cn ((3:Rat) / 2)).d)]]))))),(16,.val (.one (.row 117 0))),(85,.val (.one (.d (.list ([[D.v (.bool (cn ((-9:Rat) / 16)).s),D.v (.string (cn ((-9:Rat) / 16)).a),D.v (.string (cn ((-9:Rat) / 16)).d),D.v (.bool (cn ((-9:Rat) / 32)).s),D.v (.string (cn ((-9:Rat) / 32)).a),D.v (.string (cn ((-9:Rat) / 32)).d)], [D.v (.bool (cn ((9:Rat) / 32)).s),D.v (.string (cn ((9:Rat) / 32)).a),D.v (.string (cn ((9:Rat) / 32)).d),D.v (.bool (cn ((9:Rat) / 16)).s),D.v (.string (cn ((9:Rat) / 16)).a),D.v (.string (cn ((9:Rat) / 16)).d)]]))))),(86,int 2),(87,int (i:Int))],
  fun i=> [(5,.var 27 [.d (.v (.bool (cn (5:Rat)).s)),.d (.v (.string (cn (5:Rat)).a)),.d (.v (.string (cn (5:Rat)).d)),.d (.v (.bool (cn (0:Rat)).s)),.d (.v (.string (cn (0:Rat)).a)),.d (.v (.string (cn (0:Rat)).d))]),(117,.row 123 14 0 (List.map prD (prL i)) true)],fun i=>i≤2,fun i=>2 - i,0,?_,Nat.zero_le _,fun i hs=> ?_⟩
 ·exact ωe
 rcases (show i=0∨i=1∨i=2 by omega) with rfl|rfl|rfl
 ·refine⟨fun e1=> ?_,fun e1=> ?_⟩
  ·have f88:((0:Nat):Int)< 2:=of_decide_eq_true e1
   refine k_ix 0 [D.v (.bool (cn ((-9:Rat) / 16)).s),D.v (.string (cn ((-9:Rat) / 16)).a),D.v (.string (cn ((-9:Rat) / 16)).d),D.v (.bool (cn ((-9:Rat) / 32)).s),D.v (.string (cn ((-9:Rat) / 32)).a),D.v (.string (cn ((-9:Rat) / 32)).d)] ωf rfl rfl ?_
   refine k_ix 0 [D.v (.bool (cn ((-3:Rat) / 2)).s),D.v (.string (cn ((-3:Rat) / 2)).a),D.v (.string (cn ((-3:Rat) / 2)).d),D.v (.bool (cn ((-3:Rat) / 4)).s),D.v (.string (cn ((-3:Rat) / 4)).a),D.v (.string (cn ((-3:Rat) / 4)).d)] ωf rfl rfl ?_
   refine use (ZjG (p:=q1T) rdy3T (x:=((-9:Rat) / 16)) (y:=((-9:Rat) / 32)) ωk ωk ωk ωk (s:=1) ωk ωk) rfl ?_
   refine⟨fun _=> ?_,fun e=>absurd e ωd⟩
   refine k_ix 1 [D.v (.bool (cn ((3:Rat) / 4)).s),D.v (.string (cn ((3:Rat) / 4)).a),D.v (.string (cn ((3:Rat) / 4)).d),D.v (.bool (cn ((3:Rat) / 2)).s),D.v (.string (cn ((3:Rat) / 2)).a),D.v (.string (cn ((3:Rat) / 2)).d)] ωf rfl rfl ?_
   refine⟨⟨row1 rfl,(by show ((List.map prD (prL 0)).length+1)*208≤_;omega),(by show ((List.map prD (prL 0)).length+1)≤_;omega)⟩,?_⟩
   refine⟨1,ω,by simp only;omega,?_⟩
   constructor<;>(repeat' (first|exact rfl|exact True.intro|apply And.intro))
   all_goals first
    |rfl
    |exact ωb
    |exact ωa
  ·have f88:¬ (((0:Nat):Int)< 2):=of_decide_eq_false e1
   exfalso
   omega
 ·refine⟨fun e2=> ?_,fun e2=> ?_⟩
  ·have f88:((1:Nat):Int)< 2:=of_decide_eq_true e2
   refine k_ix 1 [D.v (.bool (cn ((9:Rat) / 32)).s),D.v (.string (cn ((9:Rat) / 32)).a),D.v (.string (cn ((9:Rat) / 32)).d),D.v (.bool (cn ((9:Rat) / 16)).s),D.v (.string (cn ((9:Rat) / 16)).a),D.v (.string (cn ((9:Rat) / 16)).d)] ωf rfl rfl ?_
   refine k_ix 0 [D.v (.bool (cn ((-3:Rat) / 2)).s),D.v (.string (cn ((-3:Rat) / 2)).a),D.v (.string (cn ((-3:Rat) / 2)).d),D.v (.bool (cn ((-3:Rat) / 4)).s),D.v (.string (cn ((-3:Rat) / 4)).a),D.v (.string (cn ((-3:Rat) / 4)).d)] ωf rfl rfl ?_
   refine use (ZjG (p:=q1T) rdy3T (x:=((9:Rat) / 32)) (y:=((9:Rat) / 16)) ωk ωk ωk ωk (s:=(-1)) ωk ωk) rfl ?_
   refine⟨fun e=>absurd e ωd,fun _=> ?_⟩
   refine⟨⟨row1 rfl,(by show ((List.map prD (prL 1)).length+1)*208≤_;omega),(by show ((List.map prD (prL 1)).length+1)≤_;omega)⟩,?_⟩
   refine⟨2,ω,by simp only;omega,?_⟩
   constructor<;>(repeat' (first|exact rfl|exact True.intro|apply And.intro))
   all_goals first
    |rfl
    |exact ωb
    |exact ωa
  ·have f88:¬ (((1:Nat):Int)< 2):=of_decide_eq_false e2
   exfalso
   omega
 ·refine⟨fun e3=> ?_,fun e3=> ?_⟩
  ·have f88:((2:Nat):Int)< 2:=of_decide_eq_true e3
   exfalso
   omega
  ·have f88:¬ (((2:Nat):Int)< 2):=of_decide_eq_false e3
   refine Eq.trans (b:= .val (.one (.d (.list (List.map prD (prL 2)))))) ?_ rfl
   rfl
theorem insideT  :Spec Tryz.prog Tab 51 [.val (.agg [.d (.v (.string (((sampA [3,4])).name))),.d (.v (.bool (((sampA [3,4])).bx).s)),.d (.v (.string (((sampA [3,4])).bx).a)),.d (.v (.string (((sampA [3,4])).bx).d)),.d (.v (.bool (((sampA [3,4])).by').s)),.d (.v (.string (((sampA [3,4])).by').a)),.d (.v (.string (((sampA [3,4])).by').d)),.d (.v (.bool (((sampA [3,4])).bh))),.d (.v (.bool (((sampA [3,4])).bt).s)),.d (.v (.string (((sampA [3,4])).bt).a)),.d (.v (.string (((sampA [3,4])).bt).d)),.d (.list (List.map lk (((sampA [3,4])).links)))]),pair (cn (5:Rat)) (cn (0:Rat))] (.val (.one (.d (.list (List.map prD (prL 2)))))):=by
 have l1:(List.map prD (prL 0)).length=0:=rfl
 have l2:(List.map prD (prL 1)).length=1:=rfl
 have l3:(List.map prD (prL 2)).length=2:=rfl
 refine Za Tryz.func51 rfl rfl Tryz.ntmps51 rfl ωr rfl rfl ?_
 refine k_ix 0 [D.v (.bool (((sampL 3)).len).s),D.v (.string (((sampL 3)).len).a),D.v (.string (((sampL 3)).len).d),D.v (.bool (((sampL 3)).low).s),D.v (.string (((sampL 3)).low).a),D.v (.string (((sampL 3)).low).d),D.v (.bool (((sampL 3)).high).s),D.v (.string (((sampL 3)).high).a),D.v (.string (((sampL 3)).high).d),D.v (.bool (((sampL 3)).speed).s),D.v (.string (((sampL 3)).speed).a),D.v (.string (((sampL 3)).speed).d),D.v (.bool (((sampL 3)).brake).s),D.v (.string (((sampL 3)).brake).a),D.v (.string (((sampL 3)).brake).d),D.list (List.map rdv (((sampL 3)).shape))] ωf rfl rfl ?_
 refine k_ix 1 [D.v (.bool (((sampL 4)).len).s),D.v (.string (((sampL 4)).len).a),D.v (.string (((sampL 4)).len).d),D.v (.bool (((sampL 4)).low).s),D.v (.string (((sampL 4)).low).a),D.v (.string (((sampL 4)).low).d),D.v (.bool (((sampL 4)).high).s),D.v (.string (((sampL 4)).high).a),D.v (.string (((sampL 4)).high).d),D.v (.bool (((sampL 4)).speed).s),D.v (.string (((sampL 4)).speed).a),D.v (.string (((sampL 4)).speed).d),D.v (.bool (((sampL 4)).brake).s),D.v (.string (((sampL 4)).brake).a),D.v (.string (((sampL 4)).brake).d),D.list (List.map rdv (((sampL 4)).shape))] ωf rfl rfl ?_
 refine⟨ωr,?_⟩
 refine use solveT rfl ?_
 refine⟨Nat,fun i=> [(5,.val (.one (.ptr 5 0))),(6,.val (.one (.ptr 6 0))),(7,.val (.one (.row 48 0))),(23,.val (.one (.d (.list (List.map prD (prL 2)))))),(24,int ((List.map prD (prL 2)).length:Int)),(25,int (i:Int))],
  fun i=> [(5,.var 71 [.d (.v (.bool (((sampL 3)).len).s)),.d (.v (.string (((sampL 3)).len).a)),.d (.v (.string (((sampL 3)).len).d)),.d (.v (.bool (((sampL 3)).low).s)),.d (.v (.string (((sampL 3)).low).a)),.d (.v (.string (((sampL 3)).low).d)),.d (.v (.bool (((sampL 3)).high).s)),.d (.v (.string (((sampL 3)).high).a)),.d (.v (.string (((sampL 3)).high).d)),.d (.v (.bool (((sampL 3)).speed).s)),.d (.v (.string (((sampL 3)).speed).a)),.d (.v (.string (((sampL 3)).speed).d)),.d (.v (.bool (((sampL 3)).brake).s)),.d (.v (.string (((sampL 3)).brake).a)),.d (.v (.string (((sampL 3)).brake).d)),.d (.list (List.map rdv (((sampL 3)).shape)))]),(6,.var 71 [.d (.v (.bool (((sampL 4)).len).s)),.d (.v (.string (((sampL 4)).len).a)),.d (.v (.string (((sampL 4)).len).d)),.d (.v (.bool (((sampL 4)).low).s)),.d (.v (.string (((sampL 4)).low).a)),.d (.v (.string (((sampL 4)).low).d)),.d (.v (.bool (((sampL 4)).high).s)),.d (.v (.string (((sampL 4)).high).a)),.d (.v (.string (((sampL 4)).high).d)),.d (.v (.bool (((sampL 4)).speed).s)),.d (.v (.string (((sampL 4)).speed).a)),.d (.v (.string (((sampL 4)).speed).d)),.d (.v (.bool (((sampL 4)).brake).s)),.d (.v (.string (((sampL 4)).brake).a)),.d (.v (.string (((sampL 4)).brake).d)),.d (.list (List.map rdv (((sampL 4)).shape)))]),(48,.row 123 14 0 (List.map prD (prL i)) true)],fun i=>i≤2,fun i=>2 - i,0,?_,Nat.zero_le _,fun i hs=> ?_⟩
 ·exact ωe
 rcases (show i=0∨i=1∨i=2 by omega) with rfl|rfl|rfl
 ·refine⟨fun e1=> ?_,fun e1=> ?_⟩
  ·have f26:((0:Nat):Int)< ((List.map prD (prL 2)).length:Int):=of_decide_eq_true e1
   refine k_ix 0 [D.list (List.map rdc q1T),D.v (.bool (cn ((-9:Rat) / 16)).s),D.v (.string (cn ((-9:Rat) / 16)).a),D.v (.string (cn ((-9:Rat) / 16)).d),D.v (.bool (cn ((-9:Rat) / 32)).s),D.v (.string (cn ((-9:Rat) / 32)).a),D.v (.string (cn ((-9:Rat) / 32)).d),D.list (List.map rdc p1T),D.v (.bool (cn ((3:Rat) / 4)).s),D.v (.string (cn ((3:Rat) / 4)).a),D.v (.string (cn ((3:Rat) / 4)).d),D.v (.bool (cn ((3:Rat) / 2)).s),D.v (.string (cn ((3:Rat) / 2)).a),D.v (.string (cn ((3:Rat) / 2)).d)] ωf rfl rfl ?_
   refine use (ZbV rdy1T (x:=((-9:Rat) / 16)) (y:=((-9:Rat) / 32)) (lo:=m2Q) (hi:=n2Q) (a:=((-9:Rat) / 16)) (b:=((-9:Rat) / 32)) ωk ωk ωk ωk ωk ωk ωk ωk ωk ωk) rfl ?_
   refine use (ZbV rdy2T (x:=((3:Rat) / 4)) (y:=((3:Rat) / 2)) (lo:=m2Q) (hi:=n2Q) (a:=((3:Rat) / 4)) (b:=((3:Rat) / 2)) ωk ωk ωk ωk ωk ωk ωk ωk ωk ωk) rfl ?_
   refine⟨fun _=> ?_,fun e=>absurd e ωd⟩
   refine⟨⟨row1 rfl,(by show ((List.map prD (prL 0)).length+1)*208≤_;omega),(by show ((List.map prD (prL 0)).length+1)≤_;omega)⟩,?_⟩
   refine⟨1,ω,by simp only;omega,?_⟩
   constructor<;>(repeat' (first|exact rfl|exact True.intro|apply And.intro))
   all_goals first
    |rfl
    |exact ωb
    |exact ωa
  ·have f26:¬ (((0:Nat):Int)< ((List.map prD (prL 2)).length:Int)):=of_decide_eq_false e1
   exfalso
   omega
 ·refine⟨fun e2=> ?_,fun e2=> ?_⟩
  ·have f26:((1:Nat):Int)< ((List.map prD (prL 2)).length:Int):=of_decide_eq_true e2
   refine k_ix 1 [D.list (List.map rdc q1T),D.v (.bool (cn ((9:Rat) / 32)).s),D.v (.string (cn ((9:Rat) / 32)).a),D.v (.string (cn ((9:Rat) / 32)).d),D.v (.bool (cn ((9:Rat) / 16)).s),D.v (.string (cn ((9:Rat) / 16)).a),D.v (.string (cn ((9:Rat) / 16)).d),D.list (List.map rdc p1T),D.v (.bool (cn ((-3:Rat) / 2)).s),D.v (.string (cn ((-3:Rat) / 2)).a),D.v (.string (cn ((-3:Rat) / 2)).d),D.v (.bool (cn ((-3:Rat) / 4)).s),D.v (.string (cn ((-3:Rat) / 4)).a),D.v (.string (cn ((-3:Rat) / 4)).d)] ωf rfl rfl ?_
   refine use (ZbV rdy1T (x:=((9:Rat) / 32)) (y:=((9:Rat) / 16)) (lo:=m2Q) (hi:=n2Q) (a:=((9:Rat) / 32)) (b:=((9:Rat) / 16)) ωk ωk ωk ωk ωk ωk ωk ωk ωk ωk) rfl ?_
   refine use (ZbV rdy2T (x:=((-3:Rat) / 2)) (y:=((-3:Rat) / 4)) (lo:=m2Q) (hi:=n2Q) (a:=((-3:Rat) / 2)) (b:=((-3:Rat) / 4)) ωk ωk ωk ωk ωk ωk ωk ωk ωk ωk) rfl ?_
   refine⟨fun _=> ?_,fun e=>absurd e ωd⟩
   refine⟨⟨row1 rfl,(by show ((List.map prD (prL 1)).length+1)*208≤_;omega),(by show ((List.map prD (prL 1)).length+1)≤_;omega)⟩,?_⟩
   refine⟨2,ω,by simp only;omega,?_⟩
   constructor<;>(repeat' (first|exact rfl|exact True.intro|apply And.intro))
   all_goals first
    |rfl
    |exact ωb
    |exact ωa
  ·have f26:¬ (((1:Nat):Int)< ((List.map prD (prL 2)).length:Int)):=of_decide_eq_false e2
   exfalso
   omega
 ·refine⟨fun e3=> ?_,fun e3=> ?_⟩
  ·have f26:((2:Nat):Int)< ((List.map prD (prL 2)).length:Int):=of_decide_eq_true e3
   exfalso
   omega
  ·have f26:¬ (((2:Nat):Int)< ((List.map prD (prL 2)).length:Int)):=of_decide_eq_false e3
   refine Eq.trans (b:= .val (.one (.d (.list (List.map prD (prL 2)))))) ?_ rfl
   rfl
def spsD (l:List (Rat×Rat)):List D:= [D.list (List.map spD l)]
def twL:Nat→List (List (Rat×Rat))
 |0=> []
 |1=> [[hvN c1T (((-9:Rat) / 16),((-9:Rat) / 32)) 9,hvN c2T (((3:Rat) / 4),((3:Rat) / 2)) 10]]
 |_=> [[hvN c1T (((-9:Rat) / 16),((-9:Rat) / 32)) 9,hvN c2T (((3:Rat) / 4),((3:Rat) / 2)) 10], [hvN c1T (((9:Rat) / 32),((9:Rat) / 16)) 9,hvN c2T (((-3:Rat) / 2),((-3:Rat) / 4)) 10]]
theorem ZdW:(sampA [3,4]).ok:=Zqg (ZpJ (l:= [3,4]) ωd ωd) ωd
theorem ZeY:hasE (sampA [3,4]) 2=0:=ZmS (l:= [3,4]) (by simp) ωd ωd rfl
theorem TwoT  :Spec Tryz.prog Tab 21 [.val (.agg [.d (.v (.string (((sampA [3,4])).name))),.d (.v (.bool (((sampA [3,4])).bx).s)),.d (.v (.string (((sampA [3,4])).bx).a)),.d (.v (.string (((sampA [3,4])).bx).d)),.d (.v (.bool (((sampA [3,4])).by').s)),.d (.v (.string (((sampA [3,4])).by').a)),.d (.v (.string (((sampA [3,4])).by').d)),.d (.v (.bool (((sampA [3,4])).bh))),.d (.v (.bool (((sampA [3,4])).bt).s)),.d (.v (.string (((sampA [3,4])).bt).a)),.d (.v (.string (((sampA [3,4])).bt).d)),.d (.list (List.map lk (((sampA [3,4])).links)))]),pair (cn (5:Rat)) (cn (0:Rat))] (.tup [.one (.d (.list (List.map spsD (twL 2)))),.one (.d (.v (.int .i64 (0))))]):=by
 have l1:(List.map prD (prL 2)).length=2:=rfl
 have l2:(List.map spsD (twL 0)).length=0:=rfl
 have l3:(List.map spsD (twL 1)).length=1:=rfl
 have l4:(List.map spsD (twL 2)).length=2:=rfl
 refine Za Tryz.func21 rfl rfl Tryz.ntmps21 rfl ωr rfl rfl ?_
 refine Zkl (A:=sampA [3,4]) (n:=2) ZdW fun m hm=> ?_
 obtain rfl:m=0:=hm.trans ZeY
 refine⟨fun e=>absurd e ωd,fun _=> ?_⟩
 refine Zs9 (x:=cn n0Q) (y:=cn n0Q) (h:=false) (z:=cn n0Q) ωc ωc ωc fun p q r hp hq hr=> ?_
 obtain rfl:p=(0:Rat):=by rw [hp];simp only [cn_q];decide+kernel
 obtain rfl:q=(0:Rat):=by rw [hq];simp only [cn_q];decide+kernel
 obtain rfl:r=(0:Rat):=by rw [hr];simp only [cn_q];decide+kernel
 refine Zs2 (x:=cn (0:Rat)) (y:=cn (0:Rat)) (h:=false) (z:=cn (0:Rat)) (t:=cn (5:Rat)) (u:=cn (0:Rat)) ωc ωc ωc ωc ωc fun p q hp hq _ _=> ?_
 obtain rfl:p=(5:Rat):=by rw [hp];simp only [cn_q];decide+kernel
 obtain rfl:q=(0:Rat):=by rw [hq];simp only [cn_q];decide+kernel
 refine use insideT rfl ?_
 refine⟨ωr,?_⟩
 refine⟨Nat,fun i=> [(7,.val (.one (.row 38 0))),(21,.val (.one (.d (.list (List.map prD (prL 2)))))),(22,int ((List.map prD (prL 2)).length:Int)),(23,int (i:Int))],
  fun i=> [(38,.row 54 1 0 (List.map spsD (twL i)) true)],fun i=>i≤2,fun i=>2 - i,0,?_,Nat.zero_le _,fun i hs=> ?_⟩
 ·exact ωe
 rcases (show i=0∨i=1∨i=2 by omega) with rfl|rfl|rfl
 ·refine⟨fun e1=> ?_,fun e1=> ?_⟩
  ·have f24:((0:Nat):Int)< ((List.map prD (prL 2)).length:Int):=of_decide_eq_true e1
   refine k_ix 0 [D.list (List.map rdc q1T),D.v (.bool (cn ((-9:Rat) / 16)).s),D.v (.string (cn ((-9:Rat) / 16)).a),D.v (.string (cn ((-9:Rat) / 16)).d),D.v (.bool (cn ((-9:Rat) / 32)).s),D.v (.string (cn ((-9:Rat) / 32)).a),D.v (.string (cn ((-9:Rat) / 32)).d),D.list (List.map rdc p1T),D.v (.bool (cn ((3:Rat) / 4)).s),D.v (.string (cn ((3:Rat) / 4)).a),D.v (.string (cn ((3:Rat) / 4)).d),D.v (.bool (cn ((3:Rat) / 2)).s),D.v (.string (cn ((3:Rat) / 2)).a),D.v (.string (cn ((3:Rat) / 2)).d)] ωf rfl rfl ?_
   refine use (Zds rdy1T (x:=((-9:Rat) / 16)) (y:=((-9:Rat) / 32)) ωk ωk ωk ωk (n:=9) (ZdC ωk)) rfl ?_
   refine use (Zds rdy2T (x:=((3:Rat) / 4)) (y:=((3:Rat) / 2)) ωk ωk ωk ωk (n:=10) (ZdC ωk)) rfl ?_
   refine⟨⟨row1 rfl,(by show ((List.map spsD (twL 0)).length+1)*24≤_;omega),(by show ((List.map spsD (twL 0)).length+1)≤_;omega)⟩,?_⟩
   refine⟨ωr,?_⟩
   refine⟨1,ω,by simp only;omega,?_⟩
   constructor<;>(repeat' (first|exact rfl|exact True.intro|apply And.intro))
   all_goals first
    |rfl
    |exact ωb
    |exact ωa
  ·have f24:¬ (((0:Nat):Int)< ((List.map prD (prL 2)).length:Int)):=of_decide_eq_false e1
   exfalso
   omega
 ·refine⟨fun e2=> ?_,fun e2=> ?_⟩
  ·have f24:((1:Nat):Int)< ((List.map prD (prL 2)).length:Int):=of_decide_eq_true e2
   refine k_ix 1 [D.list (List.map rdc q1T),D.v (.bool (cn ((9:Rat) / 32)).s),D.v (.string (cn ((9:Rat) / 32)).a),D.v (.string (cn ((9:Rat) / 32)).d),D.v (.bool (cn ((9:Rat) / 16)).s),D.v (.string (cn ((9:Rat) / 16)).a),D.v (.string (cn ((9:Rat) / 16)).d),D.list (List.map rdc p1T),D.v (.bool (cn ((-3:Rat) / 2)).s),D.v (.string (cn ((-3:Rat) / 2)).a),D.v (.string (cn ((-3:Rat) / 2)).d),D.v (.bool (cn ((-3:Rat) / 4)).s),D.v (.string (cn ((-3:Rat) / 4)).a),D.v (.string (cn ((-3:Rat) / 4)).d)] ωf rfl rfl ?_
   refine use (Zds rdy1T (x:=((9:Rat) / 32)) (y:=((9:Rat) / 16)) ωk ωk ωk ωk (n:=9) (ZdC ωk)) rfl ?_
   refine use (Zds rdy2T (x:=((-3:Rat) / 2)) (y:=((-3:Rat) / 4)) ωk ωk ωk ωk (n:=10) (ZdC ωk)) rfl ?_
   refine⟨⟨row1 rfl,(by show ((List.map spsD (twL 1)).length+1)*24≤_;omega),(by show ((List.map spsD (twL 1)).length+1)≤_;omega)⟩,?_⟩
   refine⟨ωr,?_⟩
   refine⟨2,ω,by simp only;omega,?_⟩
   constructor<;>(repeat' (first|exact rfl|exact True.intro|apply And.intro))
   all_goals first
    |rfl
    |exact ωb
    |exact ωa
  ·have f24:¬ (((1:Nat):Int)< ((List.map prD (prL 2)).length:Int)):=of_decide_eq_false e2
   exfalso
   omega
 ·refine⟨fun e3=> ?_,fun e3=> ?_⟩
  ·have f24:((2:Nat):Int)< ((List.map prD (prL 2)).length:Int):=of_decide_eq_true e3
   exfalso
   omega
  ·have f24:¬ (((2:Nat):Int)< ((List.map prD (prL 2)).length:Int)):=of_decide_eq_false e3
   refine⟨fun e4=> ?_,fun e4=> ?_⟩
   ·have f42:((List.map spsD (twL 2)).length:Int)=0:=ZJ e4
    exfalso
    omega
   ·have f42:¬ (((List.map spsD (twL 2)).length:Int)=0):=ZK e4
    refine Eq.trans (b:= .tup [.one (.d (.list (List.map spsD (twL 2)))),.one (.d (.v (.int .i64 (0))))]) ?_ rfl
    rfl
end
