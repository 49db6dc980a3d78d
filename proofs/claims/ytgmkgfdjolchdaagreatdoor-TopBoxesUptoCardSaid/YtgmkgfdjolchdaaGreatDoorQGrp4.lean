/- Joined by wip/bundle.py: XTik0 XTik1 XTikA XPlnA. -/
import Derived.Test.YtgmkgfdjolchdaaGreatDoorQGrpR
import Derived.Test.YtgmkgfdjolchdaaGreatDoorQGrpL
import Derived.Test.YtgmkgfdjolchdaaGreatDoorQGrp2
set_option maxHeartbeats 8000000
set_option maxRecDepth 100000
namespace Go.Proofs.YtgmkgfdjolchdaaGreatDoor.eng
open Go.RowKit num mem seg q held ratA ratB ratC ratD ratE vars ratF trq
def clI (q:Rat):Int:=-(-q).floor
theorem Zo2 {q:Rat} {n:Int}:clI q≤n↔q≤(n:Rat):=by
 have h:(-n≤(-q).floor)↔(((-n:Int):Rat)≤-q):=Rat.le_floor_iff
 have e:((-n:Int):Rat)=-(n:Rat):=Rat.intCast_neg n
 rw [e] at h
 unfold clI
 constructor
 ·intro g
  have:=h.1 ω
  grind
 ·intro g
  have:=h.2 (by grind)
  omega
theorem ZuP {q:Rat} {n:Int}:n< clI q↔(n:Rat)< q:=by
 rw [← Int.not_le,Zo2,Rat.not_le]
def clQ (q:Rat):Int:=if ((2000:Int):Rat)< q then 2001 else clI q
theorem Zo1 {q:Rat} (h:((2000:Int):Rat)< q):clQ q=2001:=if_pos h
theorem ZcQ {q:Rat} (h:¬ ((2000:Int):Rat)< q):clQ q=clI q∧clI q≤2000:=⟨if_neg h,Zo2.2 (Rat.not_lt.1 h)⟩
def tkN (f:Nat→Rat):Nat→Int
 |0=>1
 |i+1=>max (tkN f i) (clQ (f i))
theorem Zmh (f:Nat→Rat):∀ i,1≤tkN f i
 |0=>Int.le_refl 1
 |i+1=>Int.le_trans (Zmh f i) (Int.le_max_left ..)
theorem Zmg (f:Nat→Rat):∀ i,tkN f i≤2001
 |0=>by show (1:Int)≤2001;omega
 |i+1=>by
  have h:=Zmg f i
  have g:clQ (f i)≤2001:=by
   by_cases h:((2000:Int):Rat)< f i
   ·rw [Zo1 h];exact Int.le_refl _
   ·have:=ZcQ h;omega
  show max _ _≤_;omega
open natC
def spdAt (A:ArmV) (i:Nat):Rat:=((A.links[i]?).getD ⟨z0,z0,z0,z0,z0, []⟩).speed.q
theorem Zfz {A:ArmV} {i:Nat} {l:LinkV} (h:A.links[i]? =some l):spdAt A i=l.speed.q:=by simp [spdAt,h]
def tkQ (A:ArmV) (l m:List RV) (i:Nat):Rat:=absV (qAt m i - qAt l i) / spdAt A i
def tkA (A:ArmV) (l m:List RV):Int:=tkN (tkQ A l m) A.links.length
theorem Zfx (A:ArmV) (l m:List RV):1≤tkA A l m∧tkA A l m≤2001:=⟨Zmh _ _,Zmg _ _⟩
noncomputable def tikE (A:ArmV) (l m:List RV):Int:=if fitsE A l=0 then (if fitsE A m=0 then (if tkA A l m≤2000 then 0 else 19) else fitsE A m) else fitsE A l
noncomputable def tikV (A:ArmV) (l m:List RV):Int:=if tikE A l m=0 then tkA A l m else 0
section
variable {A : ArmV} {l m : List RV}
theorem Zml (h:¬ fitsE A l=0):tikE A l m=fitsE A l:=if_neg h
theorem Zjq (h:fitsE A l=0) (g:¬ fitsE A m=0):tikE A l m=fitsE A m:=by unfold tikE;rw [if_pos h,if_neg g]
theorem Zrp (h:fitsE A l=0) (g:fitsE A m=0) (k:¬ tkA A l m≤2000):tikE A l m=19:=by unfold tikE;rw [if_pos h,if_pos g,if_neg k]
theorem Zrq (h:fitsE A l=0) (g:fitsE A m=0) (k:tkA A l m≤2000):tikE A l m=0:=by unfold tikE;rw [if_pos h,if_pos g,if_pos k]
theorem ZhV (h:¬ tikE A l m=0):tikV A l m=0:=if_neg h
theorem Zmk (h:tikE A l m=0):tikV A l m=tkA A l m:=if_pos h
end
theorem Zvo {q:Rat} (h0:0≤q) (h:¬ ((2000:Int):Rat)< q):flV (-q)=-clI q∧0≤clI q∧clI q≤2000:=by
 have h1:=(ZcQ h).2
 have h2:(-1:Int)< clI q:=ZuP.2 (by
   have:((-1:Int):Rat)=-1:=rfl
   rw [this];grind)
 refine⟨?_,ω,h1⟩
 have e:clI q=-(-q).floor:=rfl
 rw [e,Int.neg_neg]
 rw [e] at h1 h2
 unfold flV intV
 generalize (-q).floor=f at*
 (repeat' split)<;>omega
theorem ZkP (q:Rat):0≤absV q:=by
 have h:=Rat.num_nonneg (q:=q)
 unfold absV
 split
 ·rename_i g
  have:¬ 0≤q:=fun k=>by have:=h.2 k;omega
  grind
 ·rename_i g
  exact h.1 ω
theorem Zsi {A:ArmV} (hA:armE A=0) (l m:List RV) {i:Nat} {k:LinkV} (hk:A.links[i]? =some k):0≤tkQ A l m i:=by
 have hs:=(ZR hA (List.mem_of_getElem? hk)).2.2.2.2.2.2.2.1
 unfold tkQ
 rw [Zfz hk,Rat.div_def]
 exact Rat.mul_nonneg (ZkP _) (Rat.le_of_lt (Rat.inv_pos.2 hs))
def tkS (A:ArmV) (P:List (List RV)) (s:Int):Nat→Int
 |0=>s
 |i+1=>tkS A P s i+tkA A (wAt P i) (wAt P (i+1))
theorem Zgo (A:ArmV) (P:List (List RV)) (s:Int):∀ i,s≤tkS A P s i
 |0=>Int.le_refl _
 |i+1=>by
  have h:=Zgo A P s i
  have g:=(Zfx A (wAt P i) (wAt P (i+1))).1
  show s≤_+_
  omega
noncomputable def plnS (A:ArmV) (P:List (List RV)) (s:Int) (i:Nat):Int:=if fitsE A (wAt P i)=0 then (if tkS A P s i≤2000 then 0 else 19) else fitsE A (wAt P i)
noncomputable def plnBase (A:ArmV) (P:List (List RV)) (s:Int):Int:=
 if armE A=0 then (if P.length=0 then 14 else if 60< P.length then 2 else if s< 0∨2000< s then 1 else 0) else armE A
noncomputable def plnE (A:ArmV) (P:List (List RV)) (s:Int):Int:=if plnBase A P s=0 then firstE (plnS A P s) P.length else plnBase A P s
def plnG (tk:Nat→Int) (P:List (List RV)) (n:Nat):List (Int×List Rat):=(List.range n).map fun i=>(tk i,gdL (wAt P i))
def plnL (A:ArmV) (P:List (List RV)) (s:Int) (n:Nat):List (Int×List Rat):=plnG (tkS A P s) P n
noncomputable def plnV (A:ArmV) (P:List (List RV)) (s:Int):List (Int×List Rat):=if plnE A P s=0 then plnL A P s P.length else []
section
variable {A : ArmV} {P : List (List RV)} {s : Int} {i : Nat}
theorem ZfQ (h:¬ fitsE A (wAt P i)=0):plnS A P s i=fitsE A (wAt P i):=if_neg h
theorem ZcC (h:fitsE A (wAt P i)=0) (g:¬ tkS A P s i≤2000):plnS A P s i=19:=by unfold plnS;rw [if_pos h,if_neg g]
theorem ZjR (h:fitsE A (wAt P i)=0) (g:tkS A P s i≤2000):plnS A P s i=0:=by unfold plnS;rw [if_pos h,if_pos g]
theorem ZfP (h:plnS A P s i=0):fitsE A (wAt P i)=0∧tkS A P s i≤2000:=by
 by_cases a:fitsE A (wAt P i)=0
 ·by_cases b:tkS A P s i≤2000
  ·exact⟨a,b⟩
  ·rw [ZcC a b] at h;exact absurd h ωd
 ·rw [ZfQ a] at h;exact absurd h a
theorem Zqb (h:¬ armE A=0):plnBase A P s=armE A:=if_neg h
theorem Zp9 (h:armE A=0) (g:P.length=0):plnBase A P s=14:=by unfold plnBase;rw [if_pos h,if_pos g]
theorem Zqa (h:armE A=0) (g:60< P.length):plnBase A P s=2:=by unfold plnBase;rw [if_pos h,if_neg ω,if_pos g]
theorem ZjS (h:armE A=0) (g:¬ P.length=0) (k:¬ 60< P.length) (a:s< 0∨2000< s):plnBase A P s=1:=by unfold plnBase;rw [if_pos h,if_neg g,if_neg k,if_pos a]
theorem Zrx (h:armE A=0) (g:¬ P.length=0) (k:¬ 60< P.length) (a:¬ (s< 0∨2000< s)):plnBase A P s=0:=by unfold plnBase;rw [if_pos h,if_neg g,if_neg k,if_neg a]
theorem ZbG (h:¬ plnBase A P s=0):plnE A P s=plnBase A P s:=if_neg h
theorem Zd1 (h:plnBase A P s=0) (hb:∀ j,j< i→plnS A P s j=0) (g:¬ plnS A P s i=0) (hi:i< P.length):plnE A P s=plnS A P s i:=by
 unfold plnE;rw [if_pos h,Zhu hb g hi]
theorem Znm (h:plnBase A P s=0) (hb:∀ j,j< P.length→plnS A P s j=0):plnE A P s=0:=by
 unfold plnE;rw [if_pos h,Zf9 hb]
theorem Za5 (h:¬ plnE A P s=0):plnV A P s= []:=if_neg h
theorem Ziv (h:plnE A P s=0):plnV A P s=plnL A P s P.length:=if_pos h
theorem Zp8 (tk:Nat→Int) (P:List (List RV)) (i:Nat):plnG tk P (i+1)=plnG tk P i++ [(tk i,gdL (wAt P i))]:=by simp [plnG,List.range_succ]
theorem Zdw {tk:Nat→Int}:(plnG tk P i).length=i:=by simp [plnG]
theorem ZsK {tk:Nat→Int} {n:Nat} (h:i< n):(plnG tk P n)[i]? =some (tk i,gdL (wAt P i)):=by simp [plnG,h]
end
section
variable {A : ArmV} {P : List (List RV)} {s : Int} {k : Nat}
theorem ZjQ (h:tikE A (wAt P k) (wAt P (k+1))=0):fitsE A (wAt P (k+1))=0∧tkS A P s (k+1)=tkS A P s k+tikV A (wAt P k) (wAt P (k+1)):=by
 rw [Zmk h]
 refine⟨Classical.byContradiction fun g=> ?_,rfl⟩
 by_cases f:fitsE A (wAt P k)=0
 ·rw [Zjq f g] at h;exact g h
 ·rw [Zml f] at h;exact f h
theorem Znk (hp:fitsE A (wAt P k)=0) (h0:0≤tkS A P s k) (h:¬ tikE A (wAt P k) (wAt P (k+1))=0):plnS A P s (k+1)=tikE A (wAt P k) (wAt P (k+1)):=by
 by_cases g:fitsE A (wAt P (k+1))=0
 ·have hk:¬ tkA A (wAt P k) (wAt P (k+1))≤2000:=fun hk=>h (Zrq hp g hk)
  rw [Zrp hp g hk,ZcC g (by show ¬ tkS A P s k+tkA A (wAt P k) (wAt P (k+1))≤2000;omega)]
 ·rw [Zjq hp g,ZfQ g]
end
def keyC (k:Int×List Rat):List D:= [.v (.int .i64 k.1),.list (k.2.map rdc)]
def plAV (d:Nat) (P:List (List RV)) (s:Int):Nat→AV
 |0=> .val (.one (.full [[D.v (.int .i64 s),D.list (List.map rdc (gdL (wAt P 0)))]]))
 |_+1=> .val (.one (.row d 0))
def plOb (d:Nat) (M:List (Int×List Rat)):Nat→List (Nat×Ob)
 |0=> []
 |_+1=> [(d,.row 50 2 0 (List.map keyC M) true)]
section
variable {K : AV → Prop}
theorem Zo8 (x:RV) (hx:x.z≤268435456) (h0:0≤x.q):Spec Tryz.prog Tab 64 [rat x] (int (clQ x.q)):=by
 refine Za Tryz.func64 rfl rfl Tryz.ntmps64 rfl ωr rfl rfl ?_
 refine k_of (2000) ω ω fun q6 h6 z6=> ?_
 simp only [cn_z] at z6
 refine Zc7 (x:=x) (y:=cn q6) ω ωz fun n7 h7=> ?_
 simp only [cn_q] at h7
 refine⟨ωr,?_⟩
 refine⟨fun e1=> ?_,fun e1=> ?_⟩
 ·have f8:q6< x.q:=(ZhD h7).1 (of_decide_eq_true e1)
  refine Eq.trans (b:=int 2001) ?_ rfl
  rw [h6] at f8
  rw [Zo1 f8]
 ·have f8:¬ (q6< x.q):=fun hh=>of_decide_eq_false e1 ((ZhD h7).2 hh)
  refine Zdo (x:=x) ω fun q11 h11 z11=> ?_
  simp only [cn_z] at z11
  refine Zeb (x:=cn q11) ωz (fun v12 e12 hk_12_2 hk_12_3=> ?_)
  try simp only [cn_q] at hk_12_2
  try simp only [cn_q] at hk_12_3
  refine Eq.trans (b:=int (IntKind.i64.wrap (0 - v12))) ?_ rfl
  rw [h6] at f8
  obtain⟨c1,c2,c3⟩:=Zvo h0 f8
  have hv:v12=-clI x.q:=by rw [hk_12_2,h11];exact c1
  rw [(ZcQ f8).1,hv,wrap64' _ ω ω,show 0 - -clI x.q=clI x.q by omega]
theorem Zvg {q:Rat} (hz:qs q≤268435456) (h0:0≤q) (k:K (int (clQ q))):Ask 64 [rat (cn q)] K:=use (Zo8 (cn q) (by rw [cn_z];exact hz) (by rw [cn_q];exact h0)) rfl (by rw [cn_q];exact k)
theorem ZlW (A:ArmV) (l m:List RV) (hA:A.ok) (hl:l.length≤1048576∧∀ x,x∈l→x.z≤1048576) (hm:m.length≤1048576∧∀ x,x∈m→x.z≤1048576):Spec Tryz.prog Tab 27 [arm A,.val (.one (.d (.list (List.map rd l)))),.val (.one (.d (.list (List.map rd m))))] (.tup [.one (.d (.v (.int .i64 (tikV A l m)))),.one (.d (.v (.int .i64 (tikE A l m))))]):=by
 have hA2:=hA
 obtain⟨z1,z2,z3,z4,z5,z6⟩:=hA
 have hL:(List.map lk A.links).length=A.links.length:=List.length_map ..
 have hl1:=hl.1
 have hm1:=hm.1
 refine Za Tryz.func27 rfl rfl Tryz.ntmps27 rfl ωr rfl rfl ?_
 refine⟨Nat,fun i=> [(1,.val (.one (.d (.list (List.map rd l))))),(2,.val (.one (.d (.list (List.map rd m))))),(3,.val (.one (.ptr 3 0))),(18,.val (.one (.full ([[D.list (List.map rd l)], [D.list (List.map rd m)]])))),(19,int 2),(20,int (i:Int))],
  fun i=> [(3,.var 34 [.d (.v (.string A.name)),.d (.v (.bool A.bx.s)),.d (.v (.string A.bx.a)),.d (.v (.string A.bx.d)),.d (.v (.bool A.by'.s)),.d (.v (.string A.by'.a)),.d (.v (.string A.by'.d)),.d (.v (.bool (A.bh))),.d (.v (.bool A.bt.s)),.d (.v (.string A.bt.a)),.d (.v (.string A.bt.d)),.d (.list (List.map lk A.links))])],fun i=>i≤2∧(0< i→fitsE A l=0)∧(1< i→fitsE A m=0),fun i=>2 - i,0,?_,⟨ω,fun h=>absurd h ωd,fun h=>absurd h ωd⟩,fun i hs=> ?_⟩
 ·exact ωe
 obtain⟨g1,g2,g3⟩:=hs
 refine⟨fun e1=> ?_,fun e1=> ?_⟩
 ·have f21:(i:Int)< 2:=of_decide_eq_true e1
  obtain rfl|rfl:i=0∨i=1:=ω
  ·refine k_ix 0 [D.list (List.map rd l)] ωf rfl rfl ?_
   refine ZiS (A:=A) (Q:=l) hA2 (fun x hx=>Nat.le_trans (hl.2 x hx) ωd) fun n26 hk_26_1=> ?_
   refine⟨fun e2=> ?_,fun e2=> ?_⟩
   ·have f28:n26≠0:=ZaD e2
    refine Eq.trans (b:= .tup [.one (.d (.v (.int .i64 (0)))),.one (.d (.v (.int .i64 (n26))))]) ?_ rfl
    have hno:¬ fitsE A l=0:=by rw [← hk_26_1];exact f28
    rw [ZhV (by rw [Zml hno];exact hno),Zml hno,← hk_26_1]
    all_goals rfl
   ·have f28:¬ (n26≠0):=fun hh=>hh (ZaE e2)
    refine⟨1,⟨ω,fun _=>by rw [← hk_26_1];exact Classical.not_not.1 f28,fun h=>absurd h ωd⟩,ωd,?_⟩
    constructor<;>(repeat' (first|exact rfl|exact True.intro|apply And.intro))
    all_goals first
     |exact ωb
     |exact ωa
  ·refine k_ix 1 [D.list (List.map rd m)] ωf rfl rfl ?_
   refine ZiS (A:=A) (Q:=m) hA2 (fun x hx=>Nat.le_trans (hm.2 x hx) ωd) fun n26 hk_26_1=> ?_
   refine⟨fun e3=> ?_,fun e3=> ?_⟩
   ·have f28:n26≠0:=ZaD e3
    refine Eq.trans (b:= .tup [.one (.d (.v (.int .i64 (0)))),.one (.d (.v (.int .i64 (n26))))]) ?_ rfl
    have hyes:=g2 ωd
    have hno:¬ fitsE A m=0:=by rw [← hk_26_1];exact f28
    rw [ZhV (by rw [Zjq hyes hno];exact hno),Zjq hyes hno,← hk_26_1]
    all_goals rfl
   ·have f28:¬ (n26≠0):=fun hh=>hh (ZaE e3)
    refine⟨2,⟨ω,fun _=>g2 ω,fun _=>by rw [← hk_26_1];exact Classical.not_not.1 f28⟩,ωd,?_⟩
    constructor<;>(repeat' (first|exact rfl|exact True.intro|apply And.intro))
    all_goals first
     |exact ωb
     |exact ωa
 ·have f21:¬ ((i:Int)< 2):=of_decide_eq_false e1
  obtain rfl:i=2:=ω
  have hf1:=g2 ωd
  have hf2:=g3 ωd
  have hA0:=(Zf8 hf1).2
  have hll:=(Zf8 hf1).1
  have hml:=(Zf8 hf2).1
  have hn3:=(ZaF hA0).1
  refine⟨Nat,fun j=> [(1,.val (.one (.d (.list (List.map rd l))))),(2,.val (.one (.d (.list (List.map rd m))))),(11,int (tkN (tkQ A l m) j)),(32,.val (.one (.d (.list (List.map lk A.links))))),(33,int ((List.map lk A.links).length:Int)),(34,int (j:Int))],
   fun j=> [],fun j=>j≤A.links.length,fun j=>A.links.length - j,0,?_,Nat.zero_le _,fun j hs=> ?_⟩
  ·exact ωe
  refine⟨fun e4=> ?_,fun e4=> ?_⟩
  ·have f35:(j:Int)< ((List.map lk A.links).length:Int):=of_decide_eq_true e4
   refine get_ex (l:=A.links) (i:=j) ωm fun x37 hx37=> ?_
   obtain⟨hs1x37,hs2x37,hs3x37,hs4x37,hs5,hs6,hs7⟩:=z6 x37 (List.mem_of_getElem? hx37)
   have hspx37:=ZD (ZR hA0 (List.mem_of_getElem? hx37)).2.2.2.1
   have hssx37:=(ZR hA0 (List.mem_of_getElem? hx37)).2.2.2.2.2.2.2.1
   have hpos:=Zsi hA0 l m hx37
   have hsa:=Zfz hx37
   refine k_ix j [D.v (.bool x37.len.s),D.v (.string x37.len.a),D.v (.string x37.len.d),D.v (.bool x37.low.s),D.v (.string x37.low.a),D.v (.string x37.low.d),D.v (.bool x37.high.s),D.v (.string x37.high.a),D.v (.string x37.high.d),D.v (.bool x37.speed.s),D.v (.string x37.speed.a),D.v (.string x37.speed.d),D.v (.bool x37.brake.s),D.v (.string x37.brake.a),D.v (.string x37.brake.d),D.list (List.map rdv x37.shape)] ωf (Ze hx37) rfl ?_
   refine get_ex (l:=m) (i:=j) ωm fun x42 hx42=> ?_
   have hzx42:=hm.2 x42 (List.mem_of_getElem? hx42)
   refine k_ix j [D.v (.bool x42.s),D.v (.string x42.a),D.v (.string x42.d)] ωf (Ze hx42) rfl ?_
   refine get_ex (l:=l) (i:=j) ωm fun x46 hx46=> ?_
   have hzx46:=hl.2 x46 (List.mem_of_getElem? hx46)
   refine k_ix j [D.v (.bool x46.s),D.v (.string x46.a),D.v (.string x46.d)] ωf (Ze hx46) rfl ?_
   refine Zap (x:=x42) (y:=x46) ω ω fun q48 h48 z48=> ?_
   simp only [cn_z] at z48
   refine Zoe (x:=cn q48) ωz (fun q49 hk_49_1 hk_49_2=> ?_)
   try simp only [cn_q] at hk_49_1
   simp only [cn_z] at hk_49_2
   refine Zhm (x:=cn q49) (y:=x37.speed) ωz ω (by exact fun e=>absurd hssx37 (by rw [e];decide)) fun q52 h52 z52=> ?_
   simp only [cn_z] at z52
   simp only [cn_q] at h52
   refine⟨ωr,?_⟩
   have e52:q52=tkQ A l m j:=by rw [h52,hk_49_1,h48];unfold tkQ;rw [ZbF hx42,ZbF hx46,hsa]
   refine Zvg (q:=q52) ω (by rw [e52];exact hpos) ?_
   have hmx:tkN (tkQ A l m) (j+1)=if clQ q52 >tkN (tkQ A l m) j then clQ q52 else tkN (tkQ A l m) j:=by
    rw [e52]
    show max _ _=_
    split<;>omega
   refine⟨j+1,ω,by simp only;omega,?_⟩
   constructor<;>(repeat' (first|exact rfl|exact True.intro|apply And.intro))
   all_goals first
    |exact congrArg (fun n:Int=>D.v (.int .i64 n)) hmx
    |exact congrArg (fun n:Int=>D.v (.int .i64 n)) hmx.symm
    |exact ωb
    |exact ωa
  ·have f35:¬ ((j:Int)< ((List.map lk A.links).length:Int)):=of_decide_eq_false e4
   refine⟨fun e5=> ?_,fun e5=> ?_⟩
   ·have f61:tkN (tkQ A l m) j >2000:=of_decide_eq_true e5
    refine Eq.trans (b:= .tup [.one (.d (.v (.int .i64 (0)))),.one (.d (.v (.int .i64 (19))))]) ?_ rfl
    obtain rfl:j=A.links.length:=ω
    have hno:=Zrp hf1 hf2 (show ¬ tkA A l m≤2000 from by unfold tkA;omega)
    rw [ZhV (by rw [hno];decide),hno]
    all_goals rfl
   ·have f61:¬ (tkN (tkQ A l m) j >2000):=of_decide_eq_false e5
    refine Eq.trans (b:= .tup [.one (.d (.v (.int .i64 (tkN (tkQ A l m) j)))),.one (.d (.v (.int .i64 (0))))]) ?_ rfl
    obtain rfl:j=A.links.length:=ω
    have hy:=Zrq hf1 hf2 (show tkA A l m≤2000 from by unfold tkA;omega)
    rw [Zmk hy,hy]
    all_goals rfl
theorem Zof {A:ArmV} {l m:List RV} (hA:A.ok) (hl:l.length≤1048576∧∀ x,x∈l→x.z≤1048576) (hm:m.length≤1048576∧∀ x,x∈m→x.z≤1048576) (k:∀ v n,v=tikV A l m→n=tikE A l m→K (.tup [.one (.d (.v (.int .i64 v))),.one (.d (.v (.int .i64 n)))])):Ask 27 [arm A,.val (.one (.d (.list (List.map rd l)))),.val (.one (.d (.list (List.map rd m))))] K:=use (ZlW A l m hA hl hm) rfl (k _ _ rfl rfl)
end
section
variable {K : AV → Prop}
theorem ZkZ (q:List RV) (hq:q.length≤1048576∧∀ x,x∈q→x.z≤1048576):Spec Tryz.prog Tab 26 [.val (.one (.d (.list (List.map rd q))))] (.val (.one (.d (.list (List.map rdc (gdL q)))))):=by
 have hLq:(List.map rd q).length=q.length:=List.length_map ..
 have hq1:=hq.1
 refine Za Tryz.func26 rfl rfl Tryz.ntmps26 rfl ωr rfl rfl ?_
 refine⟨Nat,fun i=> [(3,.val (.one (.row 17 0))),(6,.val (.one (.d (.list (List.map rd q))))),(7,int ((List.map rd q).length:Int)),(8,int (i:Int))],
  fun i=> [(17,.row 25 3 0 (List.map rdc (gdL (q.take i))) true)],fun i=>i≤q.length,fun i=>q.length - i,0,?_,Nat.zero_le _,fun i hs=> ?_⟩
 ·exact ωe
 have hT:(List.map rdc (gdL (q.take i))).length≤1048576:=by rw [List.length_map,Zth,List.length_take];omega
 refine⟨fun e1=> ?_,fun e1=> ?_⟩
 ·have f9:(i:Int)< ((List.map rd q).length:Int):=of_decide_eq_true e1
  refine get_ex (l:=q) (i:=i) ωm fun x10 hx10=> ?_
  have hzx10:=hq.2 x10 (List.mem_of_getElem? hx10)
  refine k_ix i [D.v (.bool x10.s),D.v (.string x10.a),D.v (.string x10.d)] ωf (Ze hx10) rfl ?_
  refine k_of (0) ω ω fun q14 h14 z14=> ?_
  simp only [cn_z] at z14
  refine ZaJ (x:=x10) (y:=cn q14) ω ωz fun q15 h15 z15=> ?_
  simp only [cn_z] at z15
  simp only [cn_q] at h15
  refine⟨⟨row1 rfl,(by show ((List.map rdc (gdL (q.take i))).length+1)*40≤_;omega),(by show ((List.map rdc (gdL (q.take i))).length+1)≤_;omega)⟩,?_⟩
  refine⟨ωr,?_⟩
  have e15:q15=x10.q:=by rw [h15,h14,Rat.intCast_zero,Rat.add_zero]
  clear h15
  subst e15
  refine⟨i+1,ω,by simp only;omega,?_⟩
  constructor<;>(repeat' (first|exact rfl|exact True.intro|apply And.intro))
  all_goals first
   |(rw [ZqM _ hx10];rfl)
   |exact ωb
   |exact ωa
 ·have f9:¬ ((i:Int)< ((List.map rd q).length:Int)):=of_decide_eq_false e1
  refine Eq.trans (b:= .val (.one (.d (.list (List.map rdc (gdL (q.take i))))))) ?_ rfl
  rw [List.take_of_length_le ω]
theorem ZiL {L:List (List RV)} {i:Nat} {q:List RV} (hw:wAt L i=q) (hq:q.length≤1048576∧∀ x,x∈q→x.z≤1048576) (k:K (.val (.one (.d (.list (List.map rdc (gdL (wAt L i)))))))):Ask 26 [.val (.one (.d (.list (List.map rd q))))] K:=by
 subst hw;exact use (ZkZ _ hq) rfl k
theorem ZhN (A:ArmV) (L:List (List RV)) (s:Int) (hA:A.ok) (hL:L.length≤1048576∧∀ q,q∈L→q.length≤1048576∧∀ x,x∈q→x.z≤1048576) (hs1:-9223372036854775808≤s∧s≤9223372036854775807):Spec Tryz.prog Tab 7 [arm A,.val (.one (.d (.list (List.map rdrs L)))),int s] (.tup [.one (.d (.list (List.map keyC (plnV A L s)))),.one (.d (.v (.int .i64 (plnE A L s))))]):=by
 have hA2:=hA
 obtain⟨tk,htk⟩:∃ tk,tk=tkS A L s:=⟨_,rfl⟩
 have hLL:(List.map rdrs L).length=L.length:=List.length_map ..
 have hL1:=hL.1
 refine Za Tryz.func7 rfl rfl Tryz.ntmps7 rfl ωr rfl rfl ?_
 refine Zkm (A:=A) ωs fun n15 hk_15_1=> ?_
 refine⟨fun e1=> ?_,fun e1=> ?_⟩
 ·have f17:n15≠0:=ZaD e1
  refine Eq.trans (b:= .tup [.one (.d (.list ([]))),.one (.d (.v (.int .i64 (n15))))]) ?_ rfl
  have hno:¬ armE A=0:=by rw [← hk_15_1];exact f17
  have hB:=Zqb (P:=L) (s:=s) hno
  have hE:=ZbG (by rw [hB];exact hno)
  rw [Za5 (by rw [hE,hB];exact hno),hE,hB,← hk_15_1]
  all_goals rfl
 ·have f17:¬ (n15≠0):=fun hh=>hh (ZaE e1)
  refine⟨fun e2=> ?_,fun e2=> ?_⟩
  ·have f21:((List.map rdrs L).length:Int)=0:=ZJ e2
   refine Eq.trans (b:= .tup [.one (.d (.list ([]))),.one (.d (.v (.int .i64 (14))))]) ?_ rfl
   have hA0:armE A=0:=by rw [← hk_15_1];exact Classical.not_not.1 f17
   have hB:=Zp9 (s:=s) hA0 (show L.length=0 by omega)
   have hE:=ZbG (by rw [hB];decide)
   rw [Za5 (by rw [hE,hB];decide),hE,hB]
   all_goals rfl
  ·have f21:¬ (((List.map rdrs L).length:Int)=0):=ZK e2
   refine⟨fun e3=> ?_,fun e3=> ?_⟩
   ·have f24:((List.map rdrs L).length:Int) >60:=of_decide_eq_true e3
    refine Eq.trans (b:= .tup [.one (.d (.list ([]))),.one (.d (.v (.int .i64 (2))))]) ?_ rfl
    have hA0:armE A=0:=by rw [← hk_15_1];exact Classical.not_not.1 f17
    have hB:=Zqa (s:=s) hA0 (show 60< L.length by omega)
    have hE:=ZbG (by rw [hB];decide)
    rw [Za5 (by rw [hE,hB];decide),hE,hB]
    all_goals rfl
   ·have f24:¬ (((List.map rdrs L).length:Int) >60):=of_decide_eq_false e3
    refine fork (fun e4=> ?_) (fun e4=> ?_)
    ·have f27:s< 0:=of_decide_eq_true e4
     refine⟨fun _=> ?_,fun e=>absurd e ωd⟩
     refine Eq.trans (b:= .tup [.one (.d (.list ([]))),.one (.d (.v (.int .i64 (1))))]) ?_ rfl
     have hA0:armE A=0:=by rw [← hk_15_1];exact Classical.not_not.1 f17
     have hB:=ZjS (s:=s) hA0 (show ¬ L.length=0 by omega) (show ¬ 60< L.length by omega) ω
     have hE:=ZbG (by rw [hB];decide)
     rw [Za5 (by rw [hE,hB];decide),hE,hB]
     all_goals rfl
    ·have f27:¬ (s< 0):=of_decide_eq_false e4
     refine⟨fun e5=> ?_,fun e5=> ?_⟩
     ·have f30:s >2000:=of_decide_eq_true e5
      refine Eq.trans (b:= .tup [.one (.d (.list ([]))),.one (.d (.v (.int .i64 (1))))]) ?_ rfl
      have hA0:armE A=0:=by rw [← hk_15_1];exact Classical.not_not.1 f17
      have hB:=ZjS (s:=s) hA0 (show ¬ L.length=0 by omega) (show ¬ 60< L.length by omega) ω
      have hE:=ZbG (by rw [hB];decide)
      rw [Za5 (by rw [hE,hB];decide),hE,hB]
      all_goals rfl
     ·have f30:¬ (s >2000):=of_decide_eq_false e5
      have hA0:armE A=0:=by rw [← hk_15_1];exact Classical.not_not.1 f17
      have hb:=Zrx (s:=s) hA0 (show ¬ L.length=0 by omega) (show ¬ 60< L.length by omega) ω
      refine get_ex (l:=L) (i:=0) ωm fun x33 hx33=> ?_
      have hwx33:=Zjk hx33
      have hzx33:=hL.2 x33 (List.mem_of_getElem? hx33)
      refine k_ix 0 [D.list (List.map rd x33)] ωf (Ze hx33) rfl ?_
      refine ZiS (A:=A) (Q:=x33) hA2 (fun x hx=>Nat.le_trans (hzx33.2 x hx) ωd) fun n35 hk_35_1=> ?_
      refine⟨ωr,?_⟩
      refine⟨fun e6=> ?_,fun e6=> ?_⟩
      ·have f37:n35≠0:=ZaD e6
       refine Eq.trans (b:= .tup [.one (.d (.list ([]))),.one (.d (.v (.int .i64 (n35))))]) ?_ rfl
       have e:plnS A L s 0=n35:=by rw [ZfQ (by rw [hwx33,← hk_35_1];exact f37),hwx33,hk_35_1]
       have hE:=Zd1 hb (i:=0) (fun j hj=>absurd hj (Nat.not_lt_zero j)) (by rw [e];exact f37) ω
       rw [Za5 (by rw [hE,e];exact f37),hE,e]
       all_goals rfl
      ·have f37:¬ (n35≠0):=fun hh=>hh (ZaE e6)
       have hp0:plnS A L s 0=0:=ZjR (by rw [hwx33,← hk_35_1];exact Classical.not_not.1 f37) (by show s≤2000;omega)
       refine k_ix 0 [D.list (List.map rd x33)] ωf (Ze hx33) rfl ?_
       refine ZiL (L:=L) (i:=0) (q:=x33) hwx33 hzx33 ?_
       refine⟨Nat×List (Int×List Rat),fun (k,M)=> [(1,.val (.one (.d (.list (List.map rdrs L))))),(3,.val (.one (.ptr 3 0))),(10,plAV 98 L s k),(11,int ((k+1:Nat):Int))],
        fun (k,M)=> [(3,.var 34 [.d (.v (.string A.name)),.d (.v (.bool A.bx.s)),.d (.v (.string A.bx.a)),.d (.v (.string A.bx.d)),.d (.v (.bool A.by'.s)),.d (.v (.string A.by'.a)),.d (.v (.string A.by'.d)),.d (.v (.bool (A.bh))),.d (.v (.bool A.bt.s)),.d (.v (.string A.bt.a)),.d (.v (.string A.bt.d)),.d (.list (List.map lk A.links))])]++plOb 98 M k,fun (k,M)=>k+1≤L.length∧(∀ j,j≤k→plnS A L s j=0)∧(0< k→M=plnG tk L (k+1)),fun (k,M)=>L.length - k,(0, []),?_,⟨ω,fun j hj=>by have e:j=0:=Nat.le_zero.1 hj;rw [e];exact hp0,fun h=>absurd h ωd⟩,fun s hs=> ?_⟩
       ·exact ωe
       obtain⟨k,M⟩:=s
       obtain⟨g1,h1,h2⟩:=hs
       try simp only at g1 h1 h2
       refine⟨fun e7=> ?_,fun e7=> ?_⟩
       ·have f49:((k+1:Nat):Int)< ((List.map rdrs L).length:Int):=of_decide_eq_true e7
        rcases k with _|k
        ·have hs0:s≤tk 0:=by rw [htk];exact Zgo A L s _
         have hs2:tk 0≤2000:=by rw [htk];exact(ZfP (h1 0 ω)).2
         have hs00:tk 0=s:=by rw [htk];rfl
         refine k_ix 0 [D.list (List.map rd x33)] ωf (Ze hx33) rfl ?_
         refine get_ex (l:=L) (i:=1) ωm fun x61 hx61=> ?_
         have hwx61:=Zjk hx61
         have hzx61:=hL.2 x61 (List.mem_of_getElem? hx61)
         refine k_ix 1 [D.list (List.map rd x61)] ωf (Ze hx61) rfl ?_
         refine Zof (A:=A) (l:=x33) (m:=x61) hA2 hzx33 hzx61 fun v63 n63 hk_63_2 hk_63_3=> ?_
         rw [← hwx33,← hwx61] at hk_63_2 hk_63_3
         have hv63:-9223372036854775808≤v63∧v63≤2001:=by
          rw [hk_63_2];unfold tikV;split
          ·have:=Zfx A (wAt L 0) (wAt L 1);omega
          ·omega
         refine⟨ωr,?_⟩
         refine fork (fun e8=> ?_) (fun e8=> ?_)
         ·have f68:n63=0:=ZJ e8
          refine k_ix 0 [D.v (.int .i64 (s)),D.list (List.map rdc (gdL (wAt L 0)))] ωf rfl rfl ?_
          refine⟨fun e9=> ?_,fun e9=> ?_⟩
          ·have f78:IntKind.i64.wrap (s+v63) >2000:=of_decide_eq_true e9
           have hwv:IntKind.i64.wrap (s+v63)=s+v63:=wrap64 _ ω ω
           rw [hwv] at f78
           have hpk:fitsE A (wAt L 1)=0∧tk 1=tk 0+tikV A (wAt L 0) (wAt L 1):=by rw [htk];exact ZjQ (P:=L) (s:=s) (k:=0) (by rw [← hk_63_3];exact f68)
           refine⟨fun _=> ?_,fun e=>absurd e ωd⟩
           refine Eq.trans (b:= .tup [.one (.d (.list ([]))),.one (.d (.v (.int .i64 (19))))]) ?_ rfl
           have e:plnS A L s 1=19:=ZcC hpk.1 (by rw [← htk,hpk.2,← hk_63_2];omega)
           have hE:=Zd1 hb (i:=1) (fun j hj=>h1 j ω) (by rw [e];decide) ω
           rw [Za5 (by rw [hE,e];decide),hE,e]
           all_goals rfl
          ·have f78:¬ (IntKind.i64.wrap (s+v63) >2000):=of_decide_eq_false e9
           have hwv:IntKind.i64.wrap (s+v63)=s+v63:=wrap64 _ ω ω
           rw [hwv] at f78
           refine⟨fun e10=> ?_,fun e10=> ?_⟩
           ·have f80:n63≠0:=ZaD e10
            exfalso
            exact f80 f68
           ·have f80:¬ (n63≠0):=fun hh=>hh (ZaE e10)
            refine k_ix 0 [D.v (.int .i64 (s)),D.list (List.map rdc (gdL (wAt L 0)))] ωf rfl rfl ?_
            refine k_ix 1 [D.list (List.map rd x61)] ωf (Ze hx61) rfl ?_
            refine ZiL (L:=L) (i:=1) (q:=x61) hwx61 hzx61 ?_
            refine⟨⟨Nat.zero_lt_succ _,row1 rfl,row1 rfl,(by show (1+1)*32≤_;omega),(by show 1+1≤_;omega)⟩,?_⟩
            refine⟨ωr,?_⟩
            have hpk2:fitsE A (wAt L 1)=0∧tk 1=tk 0+tikV A (wAt L 0) (wAt L 1):=by rw [htk];exact ZjQ (P:=L) (s:=s) (k:=0) (by rw [← hk_63_3];exact f68)
            have hst:tk 1=s+v63:=by rw [hpk2.2,← hk_63_2,hs00]
            have hle:tkS A L s 1≤2000:=by rw [← htk,hst];omega
            have htk2:IntKind.i64.wrap (s+v63)=tk 1:=by rw [hst];exact hwv
            refine⟨(1, [(s,gdL (wAt L 0)),(IntKind.i64.wrap (s+v63),gdL (wAt L 1))]),⟨ω,fun j hj=>by
             by_cases e:j=1
             ·rw [e];exact ZjR hpk2.1 hle
             ·exact h1 j ω,fun _=>by rw [htk2];show _= [(tk 0,gdL (wAt L 0)),(tk 1,gdL (wAt L 1))];rw [hs00]⟩,by simp only;omega,?_⟩
            constructor<;>(repeat' (first|exact rfl|exact True.intro|apply And.intro))
            all_goals first
             |(simp [keyC];done)
             |exact ωb
             |exact ωa
         ·have f68:¬ (n63=0):=ZK e8
          refine⟨fun e=>absurd e ωd,fun _=> ?_⟩
          refine⟨fun e11=> ?_,fun e11=> ?_⟩
          ·have f80:n63≠0:=ZaD e11
           refine Eq.trans (b:= .tup [.one (.d (.list ([]))),.one (.d (.v (.int .i64 (n63))))]) ?_ rfl
           have hz63:¬ tikE A (wAt L 0) (wAt L 1)=0:=by rw [← hk_63_3];exact f68
           have e:plnS A L s 1=n63:=by rw [hk_63_3];exact Znk (ZfP (h1 0 ω)).1 (by have:=Zgo A L s 0;omega) hz63
           have hE:=Zd1 hb (i:=1) (fun j hj=>h1 j ω) (by rw [e];exact f68) ω
           rw [Za5 (by rw [hE,e];exact f68),hE,e]
           all_goals rfl
          ·have f80:¬ (n63≠0):=fun hh=>hh (ZaE e11)
           exfalso
           exact f68 (Classical.not_not.1 f80)
        ·have h3:=h2 (Nat.succ_pos k)
         have hs0:s≤tk (k+1):=by rw [htk];exact Zgo A L s _
         have hs2:tk (k+1)≤2000:=by rw [htk];exact(ZfP (h1 (k+1) ω)).2
         have hs00:tk 0=s:=by rw [htk];rfl
         have hT:(List.map keyC M).length≤62:=by rw [List.length_map,h3,Zdw];omega
         have hTl:M.length=k+2:=by rw [h3,Zdw]
         refine get_ex (l:=L) (i:=((k+1+1) - 1)) ωm fun x57 hx57=> ?_
         have hwx57:=Zjk hx57
         have hzx57:=hL.2 x57 (List.mem_of_getElem? hx57)
         refine k_ix ((k+1+1) - 1) [D.list (List.map rd x57)] ωf (Ze hx57) rfl ?_
         refine get_ex (l:=L) (i:=(k+1+1)) ωm fun x61 hx61=> ?_
         have hwx61:=Zjk hx61
         have hzx61:=hL.2 x61 (List.mem_of_getElem? hx61)
         refine k_ix (k+1+1) [D.list (List.map rd x61)] ωf (Ze hx61) rfl ?_
         refine Zof (A:=A) (l:=x57) (m:=x61) hA2 hzx57 hzx61 fun v63 n63 hk_63_2 hk_63_3=> ?_
         rw [← hwx57,← hwx61] at hk_63_2 hk_63_3
         rw [show k+1+1 - 1=k+1 from rfl] at hk_63_2 hk_63_3
         have hv63:-9223372036854775808≤v63∧v63≤2001:=by
          rw [hk_63_2];unfold tikV;split
          ·have:=Zfx A (wAt L (k+1)) (wAt L (k+1+1));omega
          ·omega
         refine⟨ωr,?_⟩
         refine fork (fun e12=> ?_) (fun e12=> ?_)
         ·have f68:n63=0:=ZJ e12
          refine k_at_own' ((k+1+1) - 1) ωf (by first|omega|(simp;omega)) ?_
          refine get_ex (l:=M) (i:=((k+1+1) - 1)) ωm fun x74 hx74=> ?_
          have hk740:=Option.some.inj (hx74.symm.trans (by rw [h3];exact ZsK ω))
          have hkt:x74.1=tk (k+1):=by rw [hk740];rfl
          refine ZaQ [D.v (.int .i64 (x74.1)),D.list (List.map rdc x74.2)] _ (Ze hx74) rfl rfl ?_
          refine⟨fun e13=> ?_,fun e13=> ?_⟩
          ·have f78:IntKind.i64.wrap (x74.1+v63) >2000:=of_decide_eq_true e13
           have hwv:IntKind.i64.wrap (x74.1+v63)=x74.1+v63:=wrap64 _ ω ω
           rw [hwv] at f78
           have hpk:fitsE A (wAt L (k+1+1))=0∧tk (k+1+1)=tk (k+1)+tikV A (wAt L (k+1)) (wAt L (k+1+1)):=by rw [htk];exact ZjQ (P:=L) (s:=s) (k:=(k+1)) (by rw [← hk_63_3];exact f68)
           refine⟨fun _=> ?_,fun e=>absurd e ωd⟩
           refine Eq.trans (b:= .tup [.one (.d (.list ([]))),.one (.d (.v (.int .i64 (19))))]) ?_ rfl
           have e:plnS A L s (k+1+1)=19:=ZcC hpk.1 (by rw [← htk,hpk.2,← hk_63_2];omega)
           have hE:=Zd1 hb (i:=(k+1+1)) (fun j hj=>h1 j ω) (by rw [e];decide) ω
           rw [Za5 (by rw [hE,e];decide),hE,e]
           all_goals rfl
          ·have f78:¬ (IntKind.i64.wrap (x74.1+v63) >2000):=of_decide_eq_false e13
           have hwv:IntKind.i64.wrap (x74.1+v63)=x74.1+v63:=wrap64 _ ω ω
           rw [hwv] at f78
           refine⟨fun e14=> ?_,fun e14=> ?_⟩
           ·have f80:n63≠0:=ZaD e14
            exfalso
            exact f80 f68
           ·have f80:¬ (n63≠0):=fun hh=>hh (ZaE e14)
            refine k_at_own' ((k+1+1) - 1) ωf (by first|omega|(simp;omega)) ?_
            refine ZaQ [D.v (.int .i64 (x74.1)),D.list (List.map rdc x74.2)] _ (Ze hx74) rfl rfl ?_
            refine k_ix (k+1+1) [D.list (List.map rd x61)] ωf (Ze hx61) rfl ?_
            refine ZiL (L:=L) (i:=(k+1+1)) (q:=x61) hwx61 hzx61 ?_
            refine⟨⟨row1 rfl,(by show ((List.map keyC M).length+1)*32≤_;omega),(by show ((List.map keyC M).length+1)≤_;omega)⟩,?_⟩
            refine⟨ωr,?_⟩
            have hpk2:fitsE A (wAt L (k+1+1))=0∧tk (k+1+1)=tk (k+1)+tikV A (wAt L (k+1)) (wAt L (k+1+1)):=by rw [htk];exact ZjQ (P:=L) (s:=s) (k:=(k+1)) (by rw [← hk_63_3];exact f68)
            have hst:tk (k+1+1)=x74.1+v63:=by rw [hpk2.2,← hk_63_2,hkt]
            have hle:tkS A L s (k+1+1)≤2000:=by rw [← htk,hst];omega
            have htk2:IntKind.i64.wrap (x74.1+v63)=tk (k+1+1):=by rw [hst];exact hwv
            refine⟨(k+1+1,M++ [(IntKind.i64.wrap (x74.1+v63),gdL (wAt L (k+1+1)))]),⟨ω,fun j hj=>by
             by_cases e:j=(k+1+1)
             ·rw [e];exact ZjR hpk2.1 hle
             ·exact h1 j ω,fun _=>by rw [htk2,h3];exact(Zp8 tk L (k+2)).symm⟩,by simp only;omega,?_⟩
            constructor<;>(repeat' (first|exact rfl|exact True.intro|apply And.intro))
            all_goals first
             |(simp [keyC];done)
             |exact ωb
             |exact ωa
         ·have f68:¬ (n63=0):=ZK e12
          refine⟨fun e=>absurd e ωd,fun _=> ?_⟩
          refine⟨fun e15=> ?_,fun e15=> ?_⟩
          ·have f80:n63≠0:=ZaD e15
           refine Eq.trans (b:= .tup [.one (.d (.list ([]))),.one (.d (.v (.int .i64 (n63))))]) ?_ rfl
           have hz63:¬ tikE A (wAt L (k+1)) (wAt L (k+1+1))=0:=by rw [← hk_63_3];exact f68
           have e:plnS A L s (k+1+1)=n63:=by rw [hk_63_3];exact Znk (ZfP (h1 (k+1) ω)).1 (by have:=Zgo A L s (k+1);omega) hz63
           have hE:=Zd1 hb (i:=(k+1+1)) (fun j hj=>h1 j ω) (by rw [e];exact f68) ω
           rw [Za5 (by rw [hE,e];exact f68),hE,e]
           all_goals rfl
          ·have f80:¬ (n63≠0):=fun hh=>hh (ZaE e15)
           exfalso
           exact f68 (Classical.not_not.1 f80)
       ·have f49:¬ (((k+1:Nat):Int)< ((List.map rdrs L).length:Int)):=of_decide_eq_false e7
        rcases k with _|k
        ·refine Eq.trans (b:= .tup [.one (.d (.list ([[D.v (.int .i64 (s)),D.list (List.map rdc (gdL (wAt L 0)))]]))),.one (.d (.v (.int .i64 (0))))]) ?_ rfl
         have hall:∀ j,j< L.length→plnS A L s j=0:=fun j hj=>h1 j ω
         have hE:=Znm hb hall
         have hlen:L.length=1:=ω
         have hs00:tk 0=s:=by rw [htk];rfl
         rw [Ziv hE,hE,hlen,plnL,← htk]
         rw [show plnG tk L 1= [(tk 0,gdL (wAt L 0))] from rfl,hs00]
         all_goals rfl
        ·have h3:=h2 (Nat.succ_pos k)
         have hT:(List.map keyC M).length≤62:=by rw [List.length_map,h3,Zdw];omega
         have hTl:M.length=k+2:=by rw [h3,Zdw]
         refine Eq.trans (b:= .tup [.one (.d (.list (List.map keyC M))),.one (.d (.v (.int .i64 (0))))]) ?_ rfl
         have hall:∀ j,j< L.length→plnS A L s j=0:=fun j hj=>h1 j ω
         have hE:=Znm hb hall
         have hlen:L.length=k+2:=ω
         have hs00:tk 0=s:=by rw [htk];rfl
         rw [Ziv hE,hE,hlen,plnL,← htk,← h3]
         all_goals rfl
end
