/- Joined by wip/bundle.py: XPlnA XSmoA XSmoR XLawSmo. -/
import Derived.Test.YtjlhknppkodilaaGreatDoorGrp4
import Derived.Test.YtjlhknppkodilaaGreatDoorGrpSm
import Derived.Test.YtjlhknppkodilaaGreatDoorGrpPr
import Derived.Test.YtjlhknppkodilaaGreatDoorGrpX
import Derived.Test.YtjlhknppkodilaaGreatDoorOpenA
set_option maxRecDepth 100000
namespace Go.Proofs.YtjlhknppkodilaaGreatDoor.eng
open Go.RowKit num mem seg q held ratA ratB ratC ratD ratE vars ratF trq
section
variable {K : AV → Prop}
set_option maxHeartbeats 4000000 in
theorem Zmd (l:List (Int×List Rat)) (hn:l.length≤1048576) (hr:∀ x,x∈l→x.2.length≤1048576):Spec Tryz.prog Tab 8 [.val (.one (.d (.list (List.map keyC l)))),.val (.one (.d (.list (List.map keyC l))))] (bool true):=by
 have hLl:(List.map keyC l).length=l.length:=List.length_map ..
 refine Zf Tryz.func8 rfl rfl Tryz.ntmps8 rfl (by kernel_rfl) rfl rfl ?_
 refine⟨fun e1=> ?_,fun e1=> ?_⟩
 ·have f11:((List.map keyC l).length:Int)≠((List.map keyC l).length:Int):=Zay e1
  exfalso
  exact f11 rfl
 ·have f11:¬ (((List.map keyC l).length:Int)≠((List.map keyC l).length:Int)):=fun hh=>hh (Zaz e1)
  refine⟨Nat,fun i=> [(0,.val (.one (.d (.list (List.map keyC l))))),(1,.val (.one (.d (.list (List.map keyC l))))),(13,int ((List.map keyC l).length:Int)),(14,int (i:Int))],
   fun i=> [],fun i=>i≤l.length,fun i=>l.length - i,0,?_,Nat.zero_le _,fun i hs=> ?_⟩
  ·constructor<;>(repeat' (first|exact rfl|exact True.intro|exact⟨_,_,rfl⟩|exact(by decide)|apply And.intro))
   all_goals first|exact congrArg (fun n:Int=>D.v (.int .i64 n)) (by omega)|exact congrArg (fun n:Int=>D.v (.int .i64 n)) (by rw [wrap64 _ (by omega) (by omega)];omega)|(simp;done)
  refine⟨fun e2=> ?_,fun e2=> ?_⟩
  ·have f15:(i:Int)< ((List.map keyC l).length:Int):=of_decide_eq_true e2
   refine get_ex (l:=l) (i:=i) (by first|omega|exact Nat.mod_lt _ (by omega)) fun x19 hx19=> ?_
   have hrx19:=hr x19 (List.mem_of_getElem? hx19)
   have hLx19:(List.map rdc x19.2).length=x19.2.length:=List.length_map ..
   refine k_ix i [D.v (.int .i64 (x19.1)),D.list (List.map rdc x19.2)] (by first|rfl|omega|(rw [wrap64 _ (by omega) (by omega)];omega)|(rw [wrap64 _ (by omega) (by omega)];split<;>omega)) (Zm hx19) rfl ?_
   refine k_ix i [D.v (.int .i64 (x19.1)),D.list (List.map rdc x19.2)] (by first|rfl|omega|(rw [wrap64 _ (by omega) (by omega)];omega)|(rw [wrap64 _ (by omega) (by omega)];split<;>omega)) (Zm hx19) rfl ?_
   refine fork (fun e3=> ?_) (fun e3=> ?_)
   ·have f28:x19.1≠x19.1:=Zay e3
    exfalso
    exact f28 rfl
   ·have f28:¬ (x19.1≠x19.1):=fun hh=>hh (Zaz e3)
    refine k_ix i [D.v (.int .i64 (x19.1)),D.list (List.map rdc x19.2)] (by first|rfl|omega|(rw [wrap64 _ (by omega) (by omega)];omega)|(rw [wrap64 _ (by omega) (by omega)];split<;>omega)) (Zm hx19) rfl ?_
    refine k_ix i [D.v (.int .i64 (x19.1)),D.list (List.map rdc x19.2)] (by first|rfl|omega|(rw [wrap64 _ (by omega) (by omega)];omega)|(rw [wrap64 _ (by omega) (by omega)];split<;>omega)) (Zm hx19) rfl ?_
    refine⟨by kernel_rfl,?_⟩
    refine⟨fun e4=> ?_,fun e4=> ?_⟩
    ·have f42:((List.map rdc x19.2).length:Int)≠((List.map rdc x19.2).length:Int):=Zay e4
     exfalso
     exact f42 rfl
    ·have f42:¬ (((List.map rdc x19.2).length:Int)≠((List.map rdc x19.2).length:Int)):=fun hh=>hh (Zaz e4)
     refine k_ix i [D.v (.int .i64 (x19.1)),D.list (List.map rdc x19.2)] (by first|rfl|omega|(rw [wrap64 _ (by omega) (by omega)];omega)|(rw [wrap64 _ (by omega) (by omega)];split<;>omega)) (Zm hx19) rfl ?_
     refine⟨Nat,fun k=> [(0,.val (.one (.d (.list (List.map keyC l))))),(1,.val (.one (.d (.list (List.map keyC l))))),(5,int (i:Int)),(13,int ((List.map keyC l).length:Int)),(14,int (i:Int)),(29,.val (.one (.d (.list (List.map keyC l))))),(30,int (i:Int)),(31,.val (.one (.ref [D.v (.int .i64 (x19.1)),D.list (List.map rdc x19.2)]))),(32,.val (.one (.ref [D.list (List.map rdc x19.2)]))),(33,.val (.one (.d (.list (List.map rdc x19.2))))),(34,int ((List.map rdc x19.2).length:Int)),(35,.val (.one (.d (.list (List.map keyC l))))),(36,int (i:Int)),(37,.val (.one (.ref [D.v (.int .i64 (x19.1)),D.list (List.map rdc x19.2)]))),(38,.val (.one (.ref [D.list (List.map rdc x19.2)]))),(39,.val (.one (.d (.list (List.map rdc x19.2))))),(40,int ((List.map rdc x19.2).length:Int)),(41,bool (((List.map rdc x19.2).length:Int) !=((List.map rdc x19.2).length:Int))),(48,int ((List.map rdc x19.2).length:Int)),(49,int (k:Int))],
      fun k=> [],fun k=>k≤x19.2.length,fun k=>x19.2.length - k,0,?_,Nat.zero_le _,fun k hs=> ?_⟩
     ·constructor<;>(repeat' (first|exact rfl|exact True.intro|exact⟨_,_,rfl⟩|exact(by decide)|apply And.intro))
      all_goals first|exact congrArg (fun n:Int=>D.v (.int .i64 n)) (by omega)|exact congrArg (fun n:Int=>D.v (.int .i64 n)) (by rw [wrap64 _ (by omega) (by omega)];omega)|(simp;done)
     refine⟨fun e5=> ?_,fun e5=> ?_⟩
     ·have f50:(k:Int)< ((List.map rdc x19.2).length:Int):=of_decide_eq_true e5
      refine k_ix i [D.v (.int .i64 (x19.1)),D.list (List.map rdc x19.2)] (by first|rfl|omega|(rw [wrap64 _ (by omega) (by omega)];omega)|(rw [wrap64 _ (by omega) (by omega)];split<;>omega)) (Zm hx19) rfl ?_
      refine get_ex (l:=x19.2) (i:=k) (by first|omega|exact Nat.mod_lt _ (by omega)) fun x58 hx58=> ?_
      refine k_ix k [D.v (.bool (cn x58).s),D.v (.string (cn x58).a),D.v (.string (cn x58).d)] (by first|rfl|omega|(rw [wrap64 _ (by omega) (by omega)];omega)|(rw [wrap64 _ (by omega) (by omega)];split<;>omega)) (Zm hx58) rfl ?_
      refine k_ix i [D.v (.int .i64 (x19.1)),D.list (List.map rdc x19.2)] (by first|rfl|omega|(rw [wrap64 _ (by omega) (by omega)];omega)|(rw [wrap64 _ (by omega) (by omega)];split<;>omega)) (Zm hx19) rfl ?_
      refine k_ix k [D.v (.bool (cn x58).s),D.v (.string (cn x58).a),D.v (.string (cn x58).d)] (by first|rfl|omega|(rw [wrap64 _ (by omega) (by omega)];omega)|(rw [wrap64 _ (by omega) (by omega)];split<;>omega)) (Zm hx58) rfl ?_
      refine Zhi rfl ?_
      refine⟨by kernel_rfl,?_⟩
      refine⟨fun e=>absurd e (by decide),fun _=> ?_⟩
      refine⟨k+1,by omega,by simp only;omega,?_⟩
      constructor<;>(repeat' (first|exact rfl|exact True.intro|apply And.intro))
      all_goals first
       |exact congrArg (fun n:Int=>D.v (.int .i64 n)) (by rw [wrap64 _ (by omega) (by omega)];omega)
       |exact congrArg (fun n:Int=>D.v (.int .i64 n)) (by omega)
     ·have f50:¬ ((k:Int)< ((List.map rdc x19.2).length:Int)):=of_decide_eq_false e5
      refine⟨i+1,by omega,by simp only;omega,?_⟩
      constructor<;>(repeat' (first|exact rfl|exact True.intro|apply And.intro))
      all_goals first
       |exact congrArg (fun n:Int=>D.v (.int .i64 n)) (by rw [wrap64 _ (by omega) (by omega)];omega)
       |exact congrArg (fun n:Int=>D.v (.int .i64 n)) (by omega)
  ·have f15:¬ ((i:Int)< ((List.map keyC l).length:Int)):=of_decide_eq_false e2
   refine Eq.trans (b:=bool true) ?_ rfl
   rfl
theorem ZpA {u v:List (List D)} (l:List (Int×List Rat)) (hu:u=List.map keyC l) (hv:v=List.map keyC l) (hn:l.length≤1048576) (hr:∀ x,x∈l→x.2.length≤1048576) (k:K (bool true)):Ask 8 [.val (.one (.d (.list u))),.val (.one (.d (.list v)))] K:=by
 subst hu hv;exact use (Zmd l hn hr) rfl k
end
end Go.Proofs.YtjlhknppkodilaaGreatDoor.eng
namespace Go.Proofs.YtjlhknppkodilaaGreatDoor.eng
open Go.RowKit num mem seg q held ratA ratB ratC ratD ratE vars ratF trq prf smo
section
variable {K : AV → Prop}
theorem Zdb {xs:List (List D)} {m:Int} {o v:Nat} (i:Nat) (hm:m=(i:Int)) (h:i< xs.length) (k:K (.val (.one (.m o v (.cell i 0))))):
  ∃ r,(0≤m∧m< (xs.length:Int)∧r= .val (.one (.m o v (.cell m.toNat 0))))∧K r:=⟨_,⟨by omega,by omega,rfl⟩,by subst hm;exact k⟩
theorem Zna {xs:List (List D)} {m:Int} {o v q j:Nat} {pd:Option (Nat×List (List D))} {ct:List (List D)} (i:Nat) (hm:m=(i:Int)) (hc:contAt xs q pd j=some ct) (h:i< ct.length) (k:K (.val (.one (.m o v (.icell j i))))):
  ∃ r,(0≤m∧(∃ c,contAt xs q pd j=some c∧m< (c.length:Int))∧r= .val (.one (.m o v (.icell j m.toNat))))∧K r:=⟨_,⟨by omega,⟨ct,hc,by omega⟩,rfl⟩,by subst hm;exact k⟩
theorem Zil (l:List Rat):FlatL (List.map rdc l):=by
 intro r hr d hd
 obtain⟨q,_,rfl⟩:=List.mem_map.1 hr
 have:d= .v (.bool (cn q).s)∨d= .v (.string (cn q).a)∨d= .v (.string (cn q).d):=by simpa [rdc,rd] using hd
 rcases this with rfl|rfl|rfl<;>exact⟨_,rfl⟩
theorem Zdp (q:List RV) (hq:q.length≤4194304∧∀ x,x∈q→x.z≤4194304):SpecR Tryz.prog Tab 13 [.val (.one (.d (.list (List.map rd q))))] 23 3 (List.map rdc (gdL q)):=by
 have hLq:(List.map rd q).length=q.length:=List.length_map ..
 have hq1:=hq.1
 refine ZnU Tryz.func13 rfl rfl Tryz.ntmps13 rfl (by kernel_rfl) rfl rfl ?_
 refine⟨Nat,fun i=> [(3,.val (.one (.row 17 0))),(6,.val (.one (.d (.list (List.map rd q))))),(7,int ((List.map rd q).length:Int)),(8,int (i:Int))],
  fun i=> [(17,.row 23 3 0 (List.map rdc (gdL (q.take i))) true)],fun i=>i≤q.length,fun i=>q.length - i,0,?_,Nat.zero_le _,fun i hs=> ?_⟩
 ·constructor<;>(repeat' (first|exact rfl|exact True.intro|exact⟨_,_,rfl⟩|exact(by decide)|apply And.intro))
  all_goals first|exact congrArg (fun n:Int=>D.v (.int .i64 n)) (by omega)|exact congrArg (fun n:Int=>D.v (.int .i64 n)) (by rw [wrap64 _ (by omega) (by omega)];omega)|(simp;done)
 have hT:(List.map rdc (gdL (q.take i))).length≤4194304:=by rw [List.length_map,Zlw,List.length_take];omega
 refine⟨fun e1=> ?_,fun e1=> ?_⟩
 ·have f9:(i:Int)< ((List.map rd q).length:Int):=of_decide_eq_true e1
  refine get_ex (l:=q) (i:=i) (by first|omega|exact Nat.mod_lt _ (by omega)) fun x10 hx10=> ?_
  have hzx10:=hq.2 x10 (List.mem_of_getElem? hx10)
  refine k_ix i [D.v (.bool x10.s),D.v (.string x10.a),D.v (.string x10.d)] (by first|rfl|omega|(rw [wrap64 _ (by omega) (by omega)];omega)|(rw [wrap64 _ (by omega) (by omega)];split<;>omega)) (Zm hx10) rfl ?_
  refine k_of (0) (by omega) (by omega) fun q14 h14 z14=> ?_
  simp only [cn_z] at z14
  refine Znb (x:=x10) (y:=cn q14) (by omega) (by simp only [cn_z];omega) fun q15 h15 z15=> ?_
  simp only [cn_z] at z15
  simp only [cn_q] at h15
  refine⟨⟨row1 rfl,(by show ((List.map rdc (gdL (q.take i))).length+1)*40≤_;omega),(by show ((List.map rdc (gdL (q.take i))).length+1)≤_;omega)⟩,?_⟩
  refine⟨by kernel_rfl,?_⟩
  have e15:q15=x10.q:=by rw [h15,h14,Rat.intCast_zero,Rat.add_zero]
  clear h15
  subst e15
  refine⟨i+1,by omega,by simp only;omega,?_⟩
  constructor<;>(repeat' (first|exact rfl|exact True.intro|apply And.intro))
  all_goals first
   |(rw [Zni _ hx10];rfl)
   |exact congrArg (fun n:Int=>D.v (.int .i64 n)) (by rw [wrap64 _ (by omega) (by omega)];omega)
   |exact congrArg (fun n:Int=>D.v (.int .i64 n)) (by omega)
 ·have f9:¬ ((i:Int)< ((List.map rd q).length:Int)):=of_decide_eq_false e1
  have hfin:Ob.row 23 3 0 (List.map rdc (gdL (q.take i))) true=Ob.row 23 3 0 (List.map rdc (gdL q)) true:=by rw [List.take_of_length_le (by omega)]
  exact hfin
theorem tgoodN2 (f:List RV) (hf:f.length≤1048576∧∀ x,x∈f→x.z≤1048576):SpecR Tryz.prog Tab 13 [.val (.one (.d (.list (List.map rdc (gdL f)))))] 23 3 (List.map rdc (gdL f)):=by
 have h:=Zdp ((gdL f).map cn) ⟨by rw [List.length_map,Zlw];omega,fun x hx=>by
  obtain⟨q,hq,rfl⟩:=List.mem_map.1 hx
  obtain⟨y,hy,rfl⟩:=List.mem_map.1 hq
  have:=hf.2 y hy
  have:=y.z1
  rw [cn_z];omega⟩
 have e1:List.map rd ((gdL f).map cn)=List.map rdc (gdL f):=by rw [List.map_map];rfl
 have e2:gdL ((gdL f).map cn)=gdL f:=by
  show List.map RV.q (List.map cn (gdL f))=gdL f
  rw [List.map_map]
  exact(List.map_congr_left fun q _=>cn_q q).trans (List.map_id _)
 rw [e1,e2] at h
 exact h
theorem Zps {a b d:RV} {t e:Int} {L:List Rat} (h1:-9223372036854775808≤t) (h2:t≤9223372036854775807) (ha:a.z≤16777216) (hb:b.z≤16777216) (hd:d.z≤16777216) (hL:profL a.q b.q d.q t=L) (hE:profE a.q b.q d.q t=e)
  (k:K (.tup [.one (.d (.list (List.map rdc L))),.one (.d (.v (.int .i64 e)))])):Ask 10 [rat a,rat b,rat d,int t] K:=by
 subst hL hE;exact use (ZkI a b d t h1 h2 ha hb hd) rfl k
theorem ZnN {a b d:Rat} {t e:Int} {L:List Rat} (h1:-9223372036854775808≤t) (h2:t≤9223372036854775807) (ha:qs a≤4194304) (hb:qs b≤2097152) (hd:qs d≤2097152) (hL:profL a b d t=L) (hE:profE a b d t=e)
  (k:K (.tup [.one (.d (.list (List.map q3d L))),.one (.d (.v (.int .i64 e)))])):Ask 20 [q3 a,q3 b,q3 d,int t] K:=by
 subst hL hE;exact use (ZjD a b d t h1 h2 ha hb hd) rfl k
set_option maxHeartbeats 16000000 in
theorem ZhB (A:ArmV) (f g c:List RV) (t:Int) (hA:A.ok) (hf:f.length≤1048576∧∀ x,x∈f→x.z≤1048576) (hg:g.length≤1048576∧∀ x,x∈g→x.z≤1048576) (hc:c.length≤1048576∧∀ x,x∈c→x.z≤1048576) (ht:-9223372036854775808≤t∧t≤9223372036854775807):Spec Tryz.prog Tab 4 [.val (.agg [.d (.v (.string A.name)),.d (.v (.bool A.bx.s)),.d (.v (.string A.bx.a)),.d (.v (.string A.bx.d)),.d (.v (.bool A.by'.s)),.d (.v (.string A.by'.a)),.d (.v (.string A.by'.d)),.d (.v (.bool (A.bh))),.d (.v (.bool A.bt.s)),.d (.v (.string A.bt.a)),.d (.v (.string A.bt.d)),.d (.list (List.map lk A.links))]),.val (.one (.d (.list (List.map rd f)))),.val (.one (.d (.list (List.map rd g)))),.val (.one (.d (.list (List.map rd c)))),int t] (.tup [.one (.d (.list (List.map keyC (smV A f g c t)))),.one (.d (.v (.int .i64 (smE A f g c t))))]):=by
 have hA2:=hA
 obtain⟨z1,z2,z3,z4,z5,z6⟩:=hA
 have hL:(List.map lk A.links).length=A.links.length:=List.length_map ..
 have hf1:=hf.1
 have hg1:=hg.1
 have hc1:=hc.1
 have hLf:(List.map rd f).length=f.length:=List.length_map ..
 have hLc:(List.map rd c).length=c.length:=List.length_map ..
 refine ZlC [1100098,1200100,1100115,400010] Tryz.func4 rfl rfl Tryz.ntmps4 rfl (by kernel_rfl) rfl rfl ?_
 refine⟨Nat,fun i=> [(1,.val (.one (.d (.list (List.map rd f))))),(2,.val (.one (.d (.list (List.map rd g))))),(3,.val (.one (.d (.list (List.map rd c))))),(4,int t),(5,.val (.one (.ptr 5 0))),(30,.val (.one (.full ([[D.list (List.map rd f)], [D.list (List.map rd g)]])))),(31,int 2),(32,int (i:Int))],
  fun i=> [(5,.var 32 [.d (.v (.string A.name)),.d (.v (.bool A.bx.s)),.d (.v (.string A.bx.a)),.d (.v (.string A.bx.d)),.d (.v (.bool A.by'.s)),.d (.v (.string A.by'.a)),.d (.v (.string A.by'.d)),.d (.v (.bool (A.bh))),.d (.v (.bool A.bt.s)),.d (.v (.string A.bt.a)),.d (.v (.string A.bt.d)),.d (.list (List.map lk A.links))])],fun i=>i≤2∧(0< i→fitsE A f=0)∧(1< i→fitsE A g=0),fun i=>2 - i,0,?_,⟨by omega,fun h=>absurd h (by decide),fun h=>absurd h (by decide)⟩,fun i hs=> ?_⟩
 ·constructor<;>(repeat' (first|exact rfl|exact True.intro|exact⟨_,_,rfl⟩|exact(by decide)|apply And.intro))
  all_goals first|exact congrArg (fun n:Int=>D.v (.int .i64 n)) (by omega)|exact congrArg (fun n:Int=>D.v (.int .i64 n)) (by rw [wrap64 _ (by omega) (by omega)];omega)|(simp;done)
 obtain⟨g1,g2,g3⟩:=hs
 refine⟨fun e1=> ?_,fun e1=> ?_⟩
 ·have f33:(i:Int)< 2:=of_decide_eq_true e1
  obtain rfl|rfl:i=0∨i=1:=by omega
  ·refine k_ix 0 [D.list (List.map rd f)] (by first|rfl|omega|(rw [wrap64 _ (by omega) (by omega)];omega)|(rw [wrap64 _ (by omega) (by omega)];split<;>omega)) rfl rfl ?_
   refine Zlp (A:=A) (Q:=f) hA2 (fun x hx=>Nat.le_trans (hf.2 x hx) (by decide)) fun n38 hk_38_1=> ?_
   refine⟨fun e2=> ?_,fun e2=> ?_⟩
   ·have f40:n38≠0:=Zay e2
    refine Eq.trans (b:= .tup [.one (.d (.list ([]))),.one (.d (.v (.int .i64 (n38))))]) ?_ rfl
    have hno:¬ fitsE A f=0:=by rw [← hk_38_1];exact f40
    have hB:=Zof (g:=g) (c:=c) (t:=t) hno
    have hE:=Zdx (by rw [hB];exact hno)
    rw [ZaE (by rw [hE,hB];exact hno),hE,hB,← hk_38_1]
    all_goals rfl
   ·have f40:¬ (n38≠0):=fun hh=>hh (Zaz e2)
    refine⟨1,⟨by omega,fun _=>by rw [← hk_38_1];exact Classical.not_not.1 f40,fun h=>absurd h (by decide)⟩,by decide,?_⟩
    constructor<;>(repeat' (first|exact rfl|exact True.intro|apply And.intro))
    all_goals first
     |exact congrArg (fun n:Int=>D.v (.int .i64 n)) (by rw [wrap64 _ (by omega) (by omega)];omega)
     |exact congrArg (fun n:Int=>D.v (.int .i64 n)) (by omega)
  ·refine k_ix 1 [D.list (List.map rd g)] (by first|rfl|omega|(rw [wrap64 _ (by omega) (by omega)];omega)|(rw [wrap64 _ (by omega) (by omega)];split<;>omega)) rfl rfl ?_
   refine Zlp (A:=A) (Q:=g) hA2 (fun x hx=>Nat.le_trans (hg.2 x hx) (by decide)) fun n38 hk_38_1=> ?_
   refine⟨fun e3=> ?_,fun e3=> ?_⟩
   ·have f40:n38≠0:=Zay e3
    refine Eq.trans (b:= .tup [.one (.d (.list ([]))),.one (.d (.v (.int .i64 (n38))))]) ?_ rfl
    have hyes:=g2 (by decide)
    have hno:¬ fitsE A g=0:=by rw [← hk_38_1];exact f40
    have hB:=Zo6 (c:=c) (t:=t) hyes hno
    have hE:=Zdx (by rw [hB];exact hno)
    rw [ZaE (by rw [hE,hB];exact hno),hE,hB,← hk_38_1]
    all_goals rfl
   ·have f40:¬ (n38≠0):=fun hh=>hh (Zaz e3)
    refine⟨2,⟨by omega,fun _=>g2 (by omega),fun _=>by rw [← hk_38_1];exact Classical.not_not.1 f40⟩,by decide,?_⟩
    constructor<;>(repeat' (first|exact rfl|exact True.intro|apply And.intro))
    all_goals first
     |exact congrArg (fun n:Int=>D.v (.int .i64 n)) (by rw [wrap64 _ (by omega) (by omega)];omega)
     |exact congrArg (fun n:Int=>D.v (.int .i64 n)) (by omega)
 ·have f33:¬ ((i:Int)< 2):=of_decide_eq_false e1
  obtain rfl:i=2:=by omega
  have hf0:=g2 (by decide)
  have hg0:=g3 (by decide)
  have hA0:=(Zbk hf0).2
  have hfl:=(Zbk hf0).1
  have hgl:=(Zbk hg0).1
  have hn3:=(Zfq hA0).1
  refine fork (fun e4=> ?_) (fun e4=> ?_)
  ·have f48:((List.map rd c).length:Int)≠((List.map rd f).length:Int):=Zay e4
   refine⟨fun _=> ?_,fun e=>absurd e (by decide)⟩
   refine Eq.trans (b:= .tup [.one (.d (.list ([]))),.one (.d (.v (.int .i64 (1))))]) ?_ rfl
   have hB:=ZiZ (A:=A) (f:=f) (g:=g) (c:=c) (t:=t) hf0 hg0 (by omega)
   have hE:=Zdx (by rw [hB];decide)
   rw [ZaE (by rw [hE,hB];decide),hE,hB]
   all_goals rfl
  ·have f48:¬ (((List.map rd c).length:Int)≠((List.map rd f).length:Int)):=fun hh=>hh (Zaz e4)
   refine fork (fun e5=> ?_) (fun e5=> ?_)
   ·have f52:t< 0:=of_decide_eq_true e5
    refine⟨fun _=> ?_,fun e=>absurd e (by decide)⟩
    refine Eq.trans (b:= .tup [.one (.d (.list ([]))),.one (.d (.v (.int .i64 (1))))]) ?_ rfl
    have hB:=ZiZ (A:=A) (f:=f) (g:=g) (c:=c) (t:=t) hf0 hg0 (by omega)
    have hE:=Zdx (by rw [hB];decide)
    rw [ZaE (by rw [hE,hB];decide),hE,hB]
    all_goals rfl
   ·have f52:¬ (t< 0):=of_decide_eq_false e5
    refine⟨fun e6=> ?_,fun e6=> ?_⟩
    ·have f55:t >2000:=of_decide_eq_true e6
     refine Eq.trans (b:= .tup [.one (.d (.list ([]))),.one (.d (.v (.int .i64 (1))))]) ?_ rfl
     have hB:=ZiZ (A:=A) (f:=f) (g:=g) (c:=c) (t:=t) hf0 hg0 (by omega)
     have hE:=Zdx (by rw [hB];decide)
     rw [ZaE (by rw [hE,hB];decide),hE,hB]
     all_goals rfl
    ·have f55:¬ (t >2000):=of_decide_eq_false e6
     have hcf:c.length=f.length:=by omega
     have hB:sgB A f g c t=0:=Zog hf0 hg0 (by omega)
     have hcl:c.length=A.links.length:=by omega
     refine⟨Nat,fun j=> [(1,.val (.one (.d (.list (List.map rd f))))),(2,.val (.one (.d (.list (List.map rd g))))),(3,.val (.one (.d (.list (List.map rd c))))),(4,int t),(5,.val (.one (.ptr 5 0))),(15,int (nN A f g c j:Int)),(57,.val (.one (.d (.list (List.map lk A.links))))),(58,int ((List.map lk A.links).length:Int)),(59,int (j:Int))],
      fun j=> [(5,.var 32 [.d (.v (.string A.name)),.d (.v (.bool A.bx.s)),.d (.v (.string A.bx.a)),.d (.v (.string A.bx.d)),.d (.v (.bool A.by'.s)),.d (.v (.string A.by'.a)),.d (.v (.string A.by'.d)),.d (.v (.bool (A.bh))),.d (.v (.bool A.bt.s)),.d (.v (.string A.bt.a)),.d (.v (.string A.bt.d)),.d (.list (List.map lk A.links))])],fun j=>j≤A.links.length∧∀ p,p< j→pE A f g c p=0,fun j=>A.links.length - j,0,?_,⟨Nat.zero_le _,fun p h=>absurd h (Nat.not_lt_zero p)⟩,fun j hs=> ?_⟩
     ·constructor<;>(repeat' (first|exact rfl|exact True.intro|exact⟨_,_,rfl⟩|exact(by decide)|apply And.intro))
      all_goals first|exact congrArg (fun n:Int=>D.v (.int .i64 n)) (by omega)|exact congrArg (fun n:Int=>D.v (.int .i64 n)) (by rw [wrap64 _ (by omega) (by omega)];omega)|(simp;done)
     obtain⟨j1,j2⟩:=hs
     try simp only at j1 j2
     refine⟨fun e7=> ?_,fun e7=> ?_⟩
     ·have f60:(j:Int)< ((List.map lk A.links).length:Int):=of_decide_eq_true e7
      refine get_ex (l:=A.links) (i:=j) (by first|omega|exact Nat.mod_lt _ (by omega)) fun x62 hx62=> ?_
      obtain⟨hs1x62,hs2x62,hs3x62,hs4x62,hs5x62,hs6x62,hs7x62⟩:=z6 x62 (List.mem_of_getElem? hx62)
      have hspx62:=ZbD (ZbH hA0 (List.mem_of_getElem? hx62)).2.2.2.1
      have hsax62:=Zcm hx62
      have hsqx62:=x62.speed.z1
      refine k_ix j [D.v (.bool x62.len.s),D.v (.string x62.len.a),D.v (.string x62.len.d),D.v (.bool x62.low.s),D.v (.string x62.low.a),D.v (.string x62.low.d),D.v (.bool x62.high.s),D.v (.string x62.high.a),D.v (.string x62.high.d),D.v (.bool x62.speed.s),D.v (.string x62.speed.a),D.v (.string x62.speed.d),D.v (.bool x62.brake.s),D.v (.string x62.brake.a),D.v (.string x62.brake.d),D.list (List.map rdv x62.shape)] (by first|rfl|omega|(rw [wrap64 _ (by omega) (by omega)];omega)|(rw [wrap64 _ (by omega) (by omega)];split<;>omega)) (Zm hx62) rfl ?_
      refine get_ex (l:=g) (i:=j) (by first|omega|exact Nat.mod_lt _ (by omega)) fun x67 hx67=> ?_
      have hzx67:=hg.2 x67 (List.mem_of_getElem? hx67)
      have hzqx67:=x67.z1
      refine k_ix j [D.v (.bool x67.s),D.v (.string x67.a),D.v (.string x67.d)] (by first|rfl|omega|(rw [wrap64 _ (by omega) (by omega)];omega)|(rw [wrap64 _ (by omega) (by omega)];split<;>omega)) (Zm hx67) rfl ?_
      refine get_ex (l:=f) (i:=j) (by first|omega|exact Nat.mod_lt _ (by omega)) fun x71 hx71=> ?_
      have hzx71:=hf.2 x71 (List.mem_of_getElem? hx71)
      have hzqx71:=x71.z1
      refine k_ix j [D.v (.bool x71.s),D.v (.string x71.a),D.v (.string x71.d)] (by first|rfl|omega|(rw [wrap64 _ (by omega) (by omega)];omega)|(rw [wrap64 _ (by omega) (by omega)];split<;>omega)) (Zm hx71) rfl ?_
      refine Zlf (x:=x67) (y:=x71) (by omega) (by omega) fun q73 h73 z73=> ?_
      simp only [cn_z] at z73
      refine ZnP (x:=cn q73) (by simp only [cn_z];omega) (fun q74 hk_74_1 hk_74_2=> ?_)
      try simp only [cn_q] at hk_74_1
      simp only [cn_z] at hk_74_2
      refine get_ex (l:=c) (i:=j) (by first|omega|exact Nat.mod_lt _ (by omega)) fun x79 hx79=> ?_
      have hzx79:=hc.2 x79 (List.mem_of_getElem? hx79)
      have hzqx79:=x79.z1
      refine k_ix j [D.v (.bool x79.s),D.v (.string x79.a),D.v (.string x79.d)] (by first|rfl|omega|(rw [wrap64 _ (by omega) (by omega)];omega)|(rw [wrap64 _ (by omega) (by omega)];split<;>omega)) (Zm hx79) rfl ?_
      have e74:q74=dQ f g j:=by rw [hk_74_1,h73];unfold dQ;rw [ZD hx67,ZD hx71]
      refine Zps (L:=pL A f g c j) (e:=pE A f g c j) (by decide) (by decide) (by rw [cn_z];omega) (by omega) (by omega) (by rw [cn_q,e74,← hsax62,← ZD hx79];rfl) (by rw [cn_q,e74,← hsax62,← ZD hx79];rfl) ?_
      refine⟨by kernel_rfl,?_⟩
      refine⟨fun e8=> ?_,fun e8=> ?_⟩
      ·have f85:pE A f g c j≠0:=Zay e8
       refine Eq.trans (b:= .tup [.one (.d (.list ([]))),.one (.d (.v (.int .i64 (pE A f g c j))))]) ?_ rfl
       have hE:=ZnC hB (fun p hp=>j2 p hp) f85 (by omega)
       rw [ZaE (by rw [hE];exact f85),hE]
       all_goals rfl
      ·have f85:¬ (pE A f g c j≠0):=fun hh=>hh (Zaz e8)
       have hmx:((nN A f g c (j+1):Nat):Int)=if ((List.map rdc (pL A f g c j)).length:Int) >(nN A f g c j:Int) then ((List.map rdc (pL A f g c j)).length:Int) else (nN A f g c j:Int):=by
        have e:nN A f g c (j+1)=max (nN A f g c j) (pL A f g c j).length:=rfl
        rw [e,List.length_map]
        split<;>omega
       refine⟨j+1,⟨by omega,fun p hp=>by
        by_cases e:p=j
        ·rw [e];exact Classical.not_not.1 f85
        ·exact j2 p (by omega)⟩,by simp only;omega,?_⟩
       constructor<;>(repeat' (first|exact rfl|exact True.intro|apply And.intro))
       all_goals first
        |exact congrArg (fun n:Int=>D.v (.int .i64 n)) hmx
        |exact congrArg (fun n:Int=>D.v (.int .i64 n)) hmx.symm
        |exact congrArg (fun n:Int=>D.v (.int .i64 n)) (by rw [wrap64 _ (by omega) (by omega)];omega)
        |exact congrArg (fun n:Int=>D.v (.int .i64 n)) (by omega)
     ·have f60:¬ ((j:Int)< ((List.map lk A.links).length:Int)):=of_decide_eq_false e7
      have hj:j=A.links.length:=by omega
      have hall:∀ p,p< A.links.length→pE A f g c p=0:=fun p hp=>j2 p (by omega)
      have hnT:nT A f g c=nN A f g c j:=by rw [hj];rfl
      have hnp:=Zen (A:=A) (f:=f) (g:=g) (c:=c)
      refine⟨fun e9=> ?_,fun e9=> ?_⟩
      ·have f95:IntKind.i64.wrap (t+(nN A f g c j:Int)) >2000:=of_decide_eq_true e9
       refine Eq.trans (b:= .tup [.one (.d (.list ([]))),.one (.d (.v (.int .i64 (19))))]) ?_ rfl
       have hE:=ZhS hB (fun p hp=>hall p hp) (by have h:=f95;rw [wrap64 _ (by omega) (by omega)] at h;omega)
       rw [ZaE (by rw [hE];decide),hE]
       all_goals rfl
      ·have f95:¬ (IntKind.i64.wrap (t+(nN A f g c j:Int)) >2000):=of_decide_eq_false e9
       have hlate:¬ 2000< t+(nT A f g c:Int):=by have h:=f95;rw [wrap64 _ (by omega) (by omega)] at h;omega
       refine⟨_,_,⟨42,2,1,23,3,List.map rdc (gdL f),⟨by decide,by decide,by decide⟩,Zdp f ⟨by omega,fun x hx=>Nat.le_trans (hf.2 x hx) (by decide)⟩,Zil _,rfl,rfl⟩,?_⟩
       have h00: [[D.v (.int .i64 t),D.list (List.map rdc (gdL f))]]=List.map keyC (grid t 0 fun _=>gdL f):=by simp [grid,keyC]
       refine⟨Nat,fun k=> [(1,.val (.one (.d (.list (List.map rd f))))),(2,.val (.one (.d (.list (List.map rd g))))),(3,.val (.one (.d (.list (List.map rd c))))),(4,int t),(5,.val (.one (.ptr 5 0))),(15,int (nN A f g c j:Int)),(20,.val (.one (.m 98 0 .out))),(101,int (nN A f g c j:Int)),(102,int (k:Int))],
        fun k=> [(5,.var 32 [.d (.v (.string A.name)),.d (.v (.bool A.bx.s)),.d (.v (.string A.bx.a)),.d (.v (.string A.bx.d)),.d (.v (.bool A.by'.s)),.d (.v (.string A.by'.a)),.d (.v (.string A.by'.d)),.d (.v (.bool (A.bh))),.d (.v (.bool A.bt.s)),.d (.v (.string A.bt.a)),.d (.v (.string A.bt.d)),.d (.list (List.map lk A.links))]),(98,.mat 42 2 1 23 3 0 0 0 (List.map keyC (grid t k fun _=>gdL f)) none)],fun k=>k≤nN A f g c j,fun k=>nN A f g c j - k,0,?_,Nat.zero_le _,fun k hs=> ?_⟩
       ·constructor<;>(repeat' (first|exact rfl|exact True.intro|exact⟨_,_,rfl⟩|exact(by decide)|apply And.intro))
        all_goals first
         |exact h00
         |exact h00.symm
         |exact congrArg (fun n:Int=>D.v (.int .i64 n)) (by omega)
         |(simp;done)
       have hT:(List.map keyC (grid t k fun _=>gdL f)).length=k+1:=ZaN
       refine⟨fun e10=> ?_,fun e10=> ?_⟩
       ·have f103:(k:Int)< (nN A f g c j:Int):=of_decide_eq_true e10
        refine Zdb k (by first|rfl|omega|(rw [wrap64 _ (by omega) (by omega)];omega)|(rw [wrap64 _ (by omega) (by omega)];split<;>omega)) (by omega) ?_
        refine⟨_,⟨(by omega),(fun c h=>by cases h),rfl⟩,?_⟩
        refine⟨_,_,⟨_,List.map rdc (gdL f),(ZT (w:=fun _=>gdL f) (by omega)),tgoodN2 f hf,Zil _,rfl,rfl⟩,?_⟩
        refine⟨⟨rfl,rfl,(by show ((List.map keyC (grid t k fun _=>gdL f)).length+1)*32≤_;omega),(by show ((List.map keyC (grid t k fun _=>gdL f)).length+1)≤_;omega)⟩,?_⟩
        have hw:IntKind.i64.wrap (IntKind.i64.wrap (t+(k:Int))+1)=t+((k+1:Nat):Int):=by rw [wrap64 (t+(k:Int)) (by omega) (by omega),wrap64 _ (by omega) (by omega)];omega
        have he:List.map keyC (grid t k fun _=>gdL f)++ [[D.v (.int .i64 (IntKind.i64.wrap (IntKind.i64.wrap (t+(k:Int))+1))),D.list (List.map rdc (gdL f))]]=List.map keyC (grid t (k+1) fun _=>gdL f):=by rw [hw,← Zlt,List.map_append];rfl
        refine⟨k+1,by omega,by simp only;omega,?_⟩
        constructor<;>(repeat' (first|exact rfl|exact True.intro|apply And.intro))
        all_goals first
         |exact he
         |exact he.symm
         |exact congrArg (fun n:Int=>D.v (.int .i64 n)) (by rw [wrap64 _ (by omega) (by omega)];omega)
         |exact congrArg (fun n:Int=>D.v (.int .i64 n)) (by omega)
       ·have f103:¬ ((k:Int)< (nN A f g c j:Int)):=of_decide_eq_false e10
        have hkn:k=nT A f g c:=by omega
        have h01:List.map keyC (grid t k fun _=>gdL f)=List.map keyC (grid t (nT A f g c) (rowM (vA A f g c (nT A f g c)) A.links.length 0 0)):=by rw [hkn];exact congrArg (List.map keyC) (ZdN fun j _=>by rw [Zpc];exact ZpF _ hfl)
        refine⟨Nat,fun i=> [(1,.val (.one (.d (.list (List.map rd f))))),(2,.val (.one (.d (.list (List.map rd g))))),(3,.val (.one (.d (.list (List.map rd c))))),(15,int (nN A f g c j:Int)),(20,.val (.one (.m 98 0 .out))),(121,.val (.one (.d (.list (List.map lk A.links))))),(122,int ((List.map lk A.links).length:Int)),(123,int (i:Int))],
         fun i=> [(98,.mat 42 2 1 23 3 0 0 0 (List.map keyC (grid t (nT A f g c) (rowM (vA A f g c (nT A f g c)) A.links.length i 0))) none)],fun i=>i≤A.links.length,fun i=>A.links.length - i,0,?_,Nat.zero_le _,fun i hs=> ?_⟩
        ·constructor<;>(repeat' (first|exact rfl|exact True.intro|exact⟨_,_,rfl⟩|exact(by decide)|apply And.intro))
         all_goals first
          |exact h01
          |exact h01.symm
          |exact congrArg (fun n:Int=>D.v (.int .i64 n)) (by omega)
          |(simp;done)
        refine⟨fun e11=> ?_,fun e11=> ?_⟩
        ·have f124:(i:Int)< ((List.map lk A.links).length:Int):=of_decide_eq_true e11
         refine get_ex (l:=A.links) (i:=i) (by first|omega|exact Nat.mod_lt _ (by omega)) fun x126 hx126=> ?_
         obtain⟨hs1x126,hs2x126,hs3x126,hs4x126,hs5x126,hs6x126,hs7x126⟩:=z6 x126 (List.mem_of_getElem? hx126)
         have hspx126:=ZbD (ZbH hA0 (List.mem_of_getElem? hx126)).2.2.2.1
         have hsax126:=Zcm hx126
         have hsqx126:=x126.speed.z1
         refine k_ix i [D.v (.bool x126.len.s),D.v (.string x126.len.a),D.v (.string x126.len.d),D.v (.bool x126.low.s),D.v (.string x126.low.a),D.v (.string x126.low.d),D.v (.bool x126.high.s),D.v (.string x126.high.a),D.v (.string x126.high.d),D.v (.bool x126.speed.s),D.v (.string x126.speed.a),D.v (.string x126.speed.d),D.v (.bool x126.brake.s),D.v (.string x126.brake.a),D.v (.string x126.brake.d),D.list (List.map rdv x126.shape)] (by first|rfl|omega|(rw [wrap64 _ (by omega) (by omega)];omega)|(rw [wrap64 _ (by omega) (by omega)];split<;>omega)) (Zm hx126) rfl ?_
         refine get_ex (l:=g) (i:=i) (by first|omega|exact Nat.mod_lt _ (by omega)) fun x131 hx131=> ?_
         have hzx131:=hg.2 x131 (List.mem_of_getElem? hx131)
         have hzqx131:=x131.z1
         refine k_ix i [D.v (.bool x131.s),D.v (.string x131.a),D.v (.string x131.d)] (by first|rfl|omega|(rw [wrap64 _ (by omega) (by omega)];omega)|(rw [wrap64 _ (by omega) (by omega)];split<;>omega)) (Zm hx131) rfl ?_
         refine get_ex (l:=f) (i:=i) (by first|omega|exact Nat.mod_lt _ (by omega)) fun x135 hx135=> ?_
         have hzx135:=hf.2 x135 (List.mem_of_getElem? hx135)
         have hzqx135:=x135.z1
         refine k_ix i [D.v (.bool x135.s),D.v (.string x135.a),D.v (.string x135.d)] (by first|rfl|omega|(rw [wrap64 _ (by omega) (by omega)];omega)|(rw [wrap64 _ (by omega) (by omega)];split<;>omega)) (Zm hx135) rfl ?_
         refine Zlf (x:=x131) (y:=x135) (by omega) (by omega) fun q137 h137 z137=> ?_
         simp only [cn_z] at z137
         refine ZnP (x:=cn q137) (by simp only [cn_z];omega) (fun q138 hk_138_1 hk_138_2=> ?_)
         try simp only [cn_q] at hk_138_1
         simp only [cn_z] at hk_138_2
         refine get_ex (l:=c) (i:=i) (by first|omega|exact Nat.mod_lt _ (by omega)) fun x143 hx143=> ?_
         have hzx143:=hc.2 x143 (List.mem_of_getElem? hx143)
         have hzqx143:=x143.z1
         refine k_ix i [D.v (.bool x143.s),D.v (.string x143.a),D.v (.string x143.d)] (by first|rfl|omega|(rw [wrap64 _ (by omega) (by omega)];omega)|(rw [wrap64 _ (by omega) (by omega)];split<;>omega)) (Zm hx143) rfl ?_
         have e138:q138=dQ f g i:=by rw [hk_138_1,h137];unfold dQ;rw [ZD hx131,ZD hx135]
         have hpi:=hall i (by omega)
         refine Zps (L:=pM A f g c (nT A f g c) i) (e:=0) (by omega) (by omega) (by rw [cn_z];omega) (by omega) (by omega) (by rw [cn_q,e138,← hsax126,← ZD hx143];rw [← hnT];rfl) (by rw [cn_q,e138,← hsax126,← ZD hx143];rw [← hnT];exact(ZkL (by omega) hpi).1) ?_
         have hPn:=ZnF (show i< A.links.length by omega) hpi
         have hPl:(List.map rdc (pM A f g c (nT A f g c) i)).length=nT A f g c:=by rw [List.length_map];exact hPn
         have hdq:qs (dQ f g i)≤2097157:=by have h:=cn_z q138;rw [← e138];omega
         have hsx:qs (spdAt A i)+qs (qAt c i)≤1048600:=by rw [hsax126,ZD hx143];omega
         have hfx:qs (qAt f i)≤1048577:=by rw [ZD hx135];omega
         refine⟨by kernel_rfl,?_⟩
         refine⟨Nat,fun k=> [(1,.val (.one (.d (.list (List.map rd f))))),(2,.val (.one (.d (.list (List.map rd g))))),(3,.val (.one (.d (.list (List.map rd c))))),(15,int (nN A f g c j:Int)),(20,.val (.one (.m 98 0 .out))),(22,int (i:Int)),(24,.val (.one (.d (.list (List.map rdc (pM A f g c (nT A f g c) i)))))),(121,.val (.one (.d (.list (List.map lk A.links))))),(122,int ((List.map lk A.links).length:Int)),(123,int (i:Int)),(150,int ((List.map rdc (pM A f g c (nT A f g c) i)).length:Int)),(151,int (k:Int))],
          fun k=> [(98,.mat 42 2 1 23 3 0 0 0 (List.map keyC (grid t (nT A f g c) (rowM (vA A f g c (nT A f g c)) A.links.length i k))) none)],fun k=>k≤nT A f g c,fun k=>nT A f g c - k,0,?_,Nat.zero_le _,fun k hs=> ?_⟩
         ·constructor<;>(repeat' (first|exact rfl|exact True.intro|exact⟨_,_,rfl⟩|exact(by decide)|apply And.intro))
          all_goals first|exact congrArg (fun n:Int=>D.v (.int .i64 n)) (by omega)|exact congrArg (fun n:Int=>D.v (.int .i64 n)) (by rw [wrap64 _ (by omega) (by omega)];omega)|(simp;done)
         have hT:(List.map keyC (grid t (nT A f g c) (rowM (vA A f g c (nT A f g c)) A.links.length i k))).length=nT A f g c+1:=ZaN
         refine⟨fun e12=> ?_,fun e12=> ?_⟩
         ·have f152:(k:Int)< ((List.map rdc (pM A f g c (nT A f g c) i)).length:Int):=of_decide_eq_true e12
          refine get_ex (l:=(pM A f g c (nT A f g c) i)) (i:=k) (by first|omega|exact Nat.mod_lt _ (by omega)) fun x156 hx156=> ?_
          have hzx156:qs x156≤6000000:=by have:=Zon (show i< A.links.length by omega) hpi hdq hsx (List.mem_of_getElem? hx156);omega
          refine k_ix k [D.v (.bool (cn x156).s),D.v (.string (cn x156).a),D.v (.string (cn x156).d)] (by first|rfl|omega|(rw [wrap64 _ (by omega) (by omega)];omega)|(rw [wrap64 _ (by omega) (by omega)];split<;>omega)) (Zm hx156) rfl ?_
          refine k_ix i [D.v (.bool x131.s),D.v (.string x131.a),D.v (.string x131.d)] (by first|rfl|omega|(rw [wrap64 _ (by omega) (by omega)];omega)|(rw [wrap64 _ (by omega) (by omega)];split<;>omega)) (Zm hx131) rfl ?_
          refine k_ix i [D.v (.bool x135.s),D.v (.string x135.a),D.v (.string x135.d)] (by first|rfl|omega|(rw [wrap64 _ (by omega) (by omega)];omega)|(rw [wrap64 _ (by omega) (by omega)];split<;>omega)) (Zm hx135) rfl ?_
          refine Zlj (x:=x131) (y:=x135) (by omega) (by omega) fun n166 h166=> ?_
          refine⟨by kernel_rfl,?_⟩
          refine⟨fun e13=> ?_,fun e13=> ?_⟩
          ·have f167:x131.q< x135.q:=(Znm h166).1 (of_decide_eq_true e13)
           have hlt:qAt g i< qAt f i:=by rw [ZD hx131,ZD hx135];exact f167
           refine Zp7 (x:=cn x156) (by simp only [cn_z];omega) fun q169 h169 z169=> ?_
           simp only [cn_z] at z169
           simp only [cn_q] at h169
           refine Zdb (k+1) (by first|rfl|omega|(rw [wrap64 _ (by omega) (by omega)];omega)|(rw [wrap64 _ (by omega) (by omega)];split<;>omega)) (by omega) ?_
           refine⟨_,⟨(by omega),(fun c h=>by cases h),rfl⟩,?_⟩
           refine Zdb k (by first|rfl|omega|(rw [wrap64 _ (by omega) (by omega)];omega)|(rw [wrap64 _ (by omega) (by omega)];split<;>omega)) (by omega) ?_
           refine⟨_,⟨(by omega),(fun c h=>by cases h),rfl⟩,?_⟩
           refine Zna i (by first|rfl|omega|(rw [wrap64 _ (by omega) (by omega)];omega)|(rw [wrap64 _ (by omega) (by omega)];split<;>omega)) (ZT (by omega)) (by rw [List.length_map,Zai];omega) ?_
           refine get_ex (l:=(rowM (vA A f g c (nT A f g c)) A.links.length i k k)) (i:=i) (by rw [Zai];omega) fun x184 hx184=> ?_
           have e184:x184=(vA A f g c (nT A f g c)) i k:=Option.some.inj (hx184.symm.trans (Zkr (by omega)))
           have hzx184:qs x184≤6000000:=by rw [e184];have:=Zn3 (show i< A.links.length by omega) hpi hfx hdq hsx k;omega
           refine⟨_,⟨_, [D.v (.bool (cn x184).s),D.v (.string (cn x184).a),D.v (.string (cn x184).d)],(ZT (by omega)),Zm hx184,by decide,rfl⟩,?_⟩
           refine Znb (x:=cn x184) (y:=cn q169) (by simp only [cn_z];omega) (by simp only [cn_z];omega) fun q186 h186 z186=> ?_
           simp only [cn_z] at z186
           simp only [cn_q] at h186
           refine Zna i (by first|rfl|omega|(rw [wrap64 _ (by omega) (by omega)];omega)|(rw [wrap64 _ (by omega) (by omega)];split<;>omega)) (ZT (by omega)) (by rw [List.length_map,Zai];omega) ?_
           refine⟨_,_,⟨rfl,_,(ZT (by omega)),(by rw [List.length_map,Zai];omega),rfl⟩,?_⟩
           refine⟨by kernel_rfl,?_⟩
           have e186:q186=(vA A f g c (nT A f g c)) i (k+1):=by rw [ZeI hx156,if_pos hlt,h186,e184,h169];grind
           have he4:(List.map keyC (grid t (nT A f g c) (rowM (vA A f g c (nT A f g c)) A.links.length i k))).modify (k+1) (fun r=>r.set 1 (.list ((List.map rdc (rowM (vA A f g c (nT A f g c)) A.links.length i k (k+1))).set i (rdc q186))))=List.map keyC (grid t (nT A f g c) (rowM (vA A f g c (nT A f g c)) A.links.length i (k+1))):=by rw [e186];exact Zij (ZhZ (by omega))
           refine⟨k+1,by omega,by simp only;omega,?_⟩
           constructor<;>(repeat' (first|exact rfl|exact True.intro|apply And.intro))
           all_goals first
            |exact he4
            |exact he4.symm
            |exact congrArg (fun n:Int=>D.v (.int .i64 n)) (by rw [wrap64 _ (by omega) (by omega)];omega)
            |exact congrArg (fun n:Int=>D.v (.int .i64 n)) (by omega)
          ·have f167:¬ (x131.q< x135.q):=fun hh=>of_decide_eq_false e13 ((Znm h166).2 hh)
           have hlt:¬ qAt g i< qAt f i:=by rw [ZD hx131,ZD hx135];exact f167
           refine Zdb (k+1) (by first|rfl|omega|(rw [wrap64 _ (by omega) (by omega)];omega)|(rw [wrap64 _ (by omega) (by omega)];split<;>omega)) (by omega) ?_
           refine⟨_,⟨(by omega),(fun c h=>by cases h),rfl⟩,?_⟩
           refine Zdb k (by first|rfl|omega|(rw [wrap64 _ (by omega) (by omega)];omega)|(rw [wrap64 _ (by omega) (by omega)];split<;>omega)) (by omega) ?_
           refine⟨_,⟨(by omega),(fun c h=>by cases h),rfl⟩,?_⟩
           refine Zna i (by first|rfl|omega|(rw [wrap64 _ (by omega) (by omega)];omega)|(rw [wrap64 _ (by omega) (by omega)];split<;>omega)) (ZT (by omega)) (by rw [List.length_map,Zai];omega) ?_
           refine get_ex (l:=(rowM (vA A f g c (nT A f g c)) A.links.length i k k)) (i:=i) (by rw [Zai];omega) fun x184 hx184=> ?_
           have e184:x184=(vA A f g c (nT A f g c)) i k:=Option.some.inj (hx184.symm.trans (Zkr (by omega)))
           have hzx184:qs x184≤6000000:=by rw [e184];have:=Zn3 (show i< A.links.length by omega) hpi hfx hdq hsx k;omega
           refine⟨_,⟨_, [D.v (.bool (cn x184).s),D.v (.string (cn x184).a),D.v (.string (cn x184).d)],(ZT (by omega)),Zm hx184,by decide,rfl⟩,?_⟩
           refine Znb (x:=cn x184) (y:=cn x156) (by simp only [cn_z];omega) (by simp only [cn_z];omega) fun q186 h186 z186=> ?_
           simp only [cn_z] at z186
           simp only [cn_q] at h186
           refine Zna i (by first|rfl|omega|(rw [wrap64 _ (by omega) (by omega)];omega)|(rw [wrap64 _ (by omega) (by omega)];split<;>omega)) (ZT (by omega)) (by rw [List.length_map,Zai];omega) ?_
           refine⟨_,_,⟨rfl,_,(ZT (by omega)),(by rw [List.length_map,Zai];omega),rfl⟩,?_⟩
           refine⟨by kernel_rfl,?_⟩
           have e186:q186=(vA A f g c (nT A f g c)) i (k+1):=by rw [ZeI hx156,if_neg hlt,h186,e184]
           have he4:(List.map keyC (grid t (nT A f g c) (rowM (vA A f g c (nT A f g c)) A.links.length i k))).modify (k+1) (fun r=>r.set 1 (.list ((List.map rdc (rowM (vA A f g c (nT A f g c)) A.links.length i k (k+1))).set i (rdc q186))))=List.map keyC (grid t (nT A f g c) (rowM (vA A f g c (nT A f g c)) A.links.length i (k+1))):=by rw [e186];exact Zij (ZhZ (by omega))
           refine⟨k+1,by omega,by simp only;omega,?_⟩
           constructor<;>(repeat' (first|exact rfl|exact True.intro|apply And.intro))
           all_goals first
            |exact he4
            |exact he4.symm
            |exact congrArg (fun n:Int=>D.v (.int .i64 n)) (by rw [wrap64 _ (by omega) (by omega)];omega)
            |exact congrArg (fun n:Int=>D.v (.int .i64 n)) (by omega)
         ·have f152:¬ ((k:Int)< ((List.map rdc (pM A f g c (nT A f g c) i)).length:Int)):=of_decide_eq_false e12
          have hke:k=nT A f g c:=by omega
          have he3:List.map keyC (grid t (nT A f g c) (rowM (vA A f g c (nT A f g c)) A.links.length i k))=List.map keyC (grid t (nT A f g c) (rowM (vA A f g c (nT A f g c)) A.links.length (i+1) 0)):=by rw [hke];exact congrArg (List.map keyC) (ZdN fun j hj=>Zkq hj)
          refine⟨i+1,by omega,by simp only;omega,?_⟩
          constructor<;>(repeat' (first|exact rfl|exact True.intro|apply And.intro))
          all_goals first
           |exact he3
           |exact he3.symm
           |exact congrArg (fun n:Int=>D.v (.int .i64 n)) (by rw [wrap64 _ (by omega) (by omega)];omega)
           |exact congrArg (fun n:Int=>D.v (.int .i64 n)) (by omega)
        ·have f124:¬ ((i:Int)< ((List.map lk A.links).length:Int)):=of_decide_eq_false e11
         refine Eq.trans (b:= .tup [.one (.d (.list (List.map keyC (grid t (nT A f g c) (rowM (vA A f g c (nT A f g c)) A.links.length i 0))))),.one (.d (.v (.int .i64 (0))))]) ?_ rfl
         obtain rfl:i=A.links.length:=by omega
         have hE:=Zod hB (fun p hp=>hall p hp) (by have h:=hlate;omega)
         have hV:smL A f g c t=grid t (nT A f g c) (rowM (vA A f g c (nT A f g c)) A.links.length A.links.length 0):=ZdN fun j _=>(ZmE).symm
         rw [ZhR hE,hE,hV]
         all_goals rfl
theorem Zig {A:ArmV} {f g c:List RV} {t:Int} (hA:A.ok) (hf:f.length≤1048576∧∀ x,x∈f→x.z≤1048576) (hg:g.length≤1048576∧∀ x,x∈g→x.z≤1048576) (hc:c.length≤1048576∧∀ x,x∈c→x.z≤1048576) (ht:-9223372036854775808≤t∧t≤9223372036854775807) (k:∀ n,n=smE A f g c t→K (.tup [.one (.d (.list (List.map keyC (smV A f g c t)))),.one (.d (.v (.int .i64 n)))])):Ask 4 [.val (.agg [.d (.v (.string A.name)),.d (.v (.bool A.bx.s)),.d (.v (.string A.bx.a)),.d (.v (.string A.bx.d)),.d (.v (.bool A.by'.s)),.d (.v (.string A.by'.a)),.d (.v (.string A.by'.d)),.d (.v (.bool (A.bh))),.d (.v (.bool A.bt.s)),.d (.v (.string A.bt.a)),.d (.v (.string A.bt.d)),.d (.list (List.map lk A.links))]),.val (.one (.d (.list (List.map rd f)))),.val (.one (.d (.list (List.map rd g)))),.val (.one (.d (.list (List.map rd c)))),int t] K:=use (ZhB A f g c t hA hf hg hc ht) rfl (k _ rfl)
end
end Go.Proofs.YtjlhknppkodilaaGreatDoor.eng
namespace Go.Proofs.YtjlhknppkodilaaGreatDoor.eng
open Go.RowKit num mem seg q held ratA ratB ratC ratD ratE vars ratF trq prf smo
section
variable {K : AV → Prop}
set_option maxHeartbeats 16000000 in
theorem Zfs (A:ArmV) (f g c:List RV) (t:Int) (hA:A.ok) (hf:f.length≤1048576∧∀ x,x∈f→x.z≤1048576) (hg:g.length≤1048576∧∀ x,x∈g→x.z≤1048576) (hc:c.length≤1048576∧∀ x,x∈c→x.z≤1048576) (ht:-9223372036854775808≤t∧t≤9223372036854775807):Spec Tryz.prog Tab 7 [.val (.agg [.d (.v (.string A.name)),.d (.v (.bool A.bx.s)),.d (.v (.string A.bx.a)),.d (.v (.string A.bx.d)),.d (.v (.bool A.by'.s)),.d (.v (.string A.by'.a)),.d (.v (.string A.by'.d)),.d (.v (.bool (A.bh))),.d (.v (.bool A.bt.s)),.d (.v (.string A.bt.a)),.d (.v (.string A.bt.d)),.d (.list (List.map lk A.links))]),.val (.one (.d (.list (List.map rd f)))),.val (.one (.d (.list (List.map rd g)))),.val (.one (.d (.list (List.map rd c)))),int t] (.tup [.one (.d (.list (List.map keyC (smV A f g c t)))),.one (.d (.v (.int .i64 (smE A f g c t))))]):=by
 have hA2:=hA
 obtain⟨z1,z2,z3,z4,z5,z6⟩:=hA
 have hL:(List.map lk A.links).length=A.links.length:=List.length_map ..
 have hf1:=hf.1
 have hg1:=hg.1
 have hc1:=hc.1
 have hLf:(List.map rd f).length=f.length:=List.length_map ..
 have hLc:(List.map rd c).length=c.length:=List.length_map ..
 refine ZlC [1400103,400010] Tryz.func7 rfl rfl Tryz.ntmps7 rfl (by kernel_rfl) rfl rfl ?_
 refine⟨Nat,fun i=> [(1,.val (.one (.d (.list (List.map rd f))))),(2,.val (.one (.d (.list (List.map rd g))))),(3,.val (.one (.d (.list (List.map rd c))))),(4,int t),(5,.val (.one (.ptr 5 0))),(31,.val (.one (.full ([[D.list (List.map rd f)], [D.list (List.map rd g)]])))),(32,int 2),(33,int (i:Int))],
  fun i=> [(5,.var 32 [.d (.v (.string A.name)),.d (.v (.bool A.bx.s)),.d (.v (.string A.bx.a)),.d (.v (.string A.bx.d)),.d (.v (.bool A.by'.s)),.d (.v (.string A.by'.a)),.d (.v (.string A.by'.d)),.d (.v (.bool (A.bh))),.d (.v (.bool A.bt.s)),.d (.v (.string A.bt.a)),.d (.v (.string A.bt.d)),.d (.list (List.map lk A.links))])],fun i=>i≤2∧(0< i→fitsE A f=0)∧(1< i→fitsE A g=0),fun i=>2 - i,0,?_,⟨by omega,fun h=>absurd h (by decide),fun h=>absurd h (by decide)⟩,fun i hs=> ?_⟩
 ·constructor<;>(repeat' (first|exact rfl|exact True.intro|exact⟨_,_,rfl⟩|exact(by decide)|apply And.intro))
  all_goals first|exact congrArg (fun n:Int=>D.v (.int .i64 n)) (by omega)|exact congrArg (fun n:Int=>D.v (.int .i64 n)) (by rw [wrap64 _ (by omega) (by omega)];omega)|(simp;done)
 obtain⟨g1,g2,g3⟩:=hs
 refine⟨fun e1=> ?_,fun e1=> ?_⟩
 ·have f34:(i:Int)< 2:=of_decide_eq_true e1
  obtain rfl|rfl:i=0∨i=1:=by omega
  ·refine k_ix 0 [D.list (List.map rd f)] (by first|rfl|omega|(rw [wrap64 _ (by omega) (by omega)];omega)|(rw [wrap64 _ (by omega) (by omega)];split<;>omega)) rfl rfl ?_
   refine Zlo (A:=A) (Q:=f) hA2 (fun x hx=>Nat.le_trans (hf.2 x hx) (by decide)) (Nat.le_trans hf.1 (by decide)) fun n39 hk_39_1=> ?_
   refine⟨fun e2=> ?_,fun e2=> ?_⟩
   ·have f41:n39≠0:=Zay e2
    refine Eq.trans (b:= .tup [.one (.d (.list ([]))),.one (.d (.v (.int .i64 (n39))))]) ?_ rfl
    have hno:¬ fitsE A f=0:=by rw [← hk_39_1];exact f41
    have hB:=Zof (g:=g) (c:=c) (t:=t) hno
    have hE:=Zdx (by rw [hB];exact hno)
    rw [ZaE (by rw [hE,hB];exact hno),hE,hB,← hk_39_1]
    all_goals rfl
   ·have f41:¬ (n39≠0):=fun hh=>hh (Zaz e2)
    refine⟨1,⟨by omega,fun _=>by rw [← hk_39_1];exact Classical.not_not.1 f41,fun h=>absurd h (by decide)⟩,by decide,?_⟩
    constructor<;>(repeat' (first|exact rfl|exact True.intro|apply And.intro))
    all_goals first
     |exact congrArg (fun n:Int=>D.v (.int .i64 n)) (by rw [wrap64 _ (by omega) (by omega)];omega)
     |exact congrArg (fun n:Int=>D.v (.int .i64 n)) (by omega)
  ·refine k_ix 1 [D.list (List.map rd g)] (by first|rfl|omega|(rw [wrap64 _ (by omega) (by omega)];omega)|(rw [wrap64 _ (by omega) (by omega)];split<;>omega)) rfl rfl ?_
   refine Zlo (A:=A) (Q:=g) hA2 (fun x hx=>Nat.le_trans (hg.2 x hx) (by decide)) (Nat.le_trans hg.1 (by decide)) fun n39 hk_39_1=> ?_
   refine⟨fun e3=> ?_,fun e3=> ?_⟩
   ·have f41:n39≠0:=Zay e3
    refine Eq.trans (b:= .tup [.one (.d (.list ([]))),.one (.d (.v (.int .i64 (n39))))]) ?_ rfl
    have hyes:=g2 (by decide)
    have hno:¬ fitsE A g=0:=by rw [← hk_39_1];exact f41
    have hB:=Zo6 (c:=c) (t:=t) hyes hno
    have hE:=Zdx (by rw [hB];exact hno)
    rw [ZaE (by rw [hE,hB];exact hno),hE,hB,← hk_39_1]
    all_goals rfl
   ·have f41:¬ (n39≠0):=fun hh=>hh (Zaz e3)
    refine⟨2,⟨by omega,fun _=>g2 (by omega),fun _=>by rw [← hk_39_1];exact Classical.not_not.1 f41⟩,by decide,?_⟩
    constructor<;>(repeat' (first|exact rfl|exact True.intro|apply And.intro))
    all_goals first
     |exact congrArg (fun n:Int=>D.v (.int .i64 n)) (by rw [wrap64 _ (by omega) (by omega)];omega)
     |exact congrArg (fun n:Int=>D.v (.int .i64 n)) (by omega)
 ·have f34:¬ ((i:Int)< 2):=of_decide_eq_false e1
  obtain rfl:i=2:=by omega
  have hf0:=g2 (by decide)
  have hg0:=g3 (by decide)
  have hA0:=(Zbk hf0).2
  have hfl:=(Zbk hf0).1
  have hgl:=(Zbk hg0).1
  have hn3:=(Zfq hA0).1
  refine fork (fun e4=> ?_) (fun e4=> ?_)
  ·have f49:((List.map rd c).length:Int)≠((List.map rd f).length:Int):=Zay e4
   refine⟨fun _=> ?_,fun e=>absurd e (by decide)⟩
   refine Eq.trans (b:= .tup [.one (.d (.list ([]))),.one (.d (.v (.int .i64 (1))))]) ?_ rfl
   have hB:=ZiZ (A:=A) (f:=f) (g:=g) (c:=c) (t:=t) hf0 hg0 (by omega)
   have hE:=Zdx (by rw [hB];decide)
   rw [ZaE (by rw [hE,hB];decide),hE,hB]
   all_goals rfl
  ·have f49:¬ (((List.map rd c).length:Int)≠((List.map rd f).length:Int)):=fun hh=>hh (Zaz e4)
   refine fork (fun e5=> ?_) (fun e5=> ?_)
   ·have f53:t< 0:=of_decide_eq_true e5
    refine⟨fun _=> ?_,fun e=>absurd e (by decide)⟩
    refine Eq.trans (b:= .tup [.one (.d (.list ([]))),.one (.d (.v (.int .i64 (1))))]) ?_ rfl
    have hB:=ZiZ (A:=A) (f:=f) (g:=g) (c:=c) (t:=t) hf0 hg0 (by omega)
    have hE:=Zdx (by rw [hB];decide)
    rw [ZaE (by rw [hE,hB];decide),hE,hB]
    all_goals rfl
   ·have f53:¬ (t< 0):=of_decide_eq_false e5
    refine⟨fun e6=> ?_,fun e6=> ?_⟩
    ·have f56:t >2000:=of_decide_eq_true e6
     refine Eq.trans (b:= .tup [.one (.d (.list ([]))),.one (.d (.v (.int .i64 (1))))]) ?_ rfl
     have hB:=ZiZ (A:=A) (f:=f) (g:=g) (c:=c) (t:=t) hf0 hg0 (by omega)
     have hE:=Zdx (by rw [hB];decide)
     rw [ZaE (by rw [hE,hB];decide),hE,hB]
     all_goals rfl
    ·have f56:¬ (t >2000):=of_decide_eq_false e6
     have hcf:c.length=f.length:=by omega
     have hB:sgB A f g c t=0:=Zog hf0 hg0 (by omega)
     have hcl:c.length=A.links.length:=by omega
     refine⟨Nat,fun j=> [(1,.val (.one (.d (.list (List.map rd f))))),(2,.val (.one (.d (.list (List.map rd g))))),(3,.val (.one (.d (.list (List.map rd c))))),(4,int t),(5,.val (.one (.ptr 5 0))),(15,int (nN A f g c j:Int)),(58,.val (.one (.d (.list (List.map lk A.links))))),(59,int ((List.map lk A.links).length:Int)),(60,int (j:Int))],
      fun j=> [(5,.var 32 [.d (.v (.string A.name)),.d (.v (.bool A.bx.s)),.d (.v (.string A.bx.a)),.d (.v (.string A.bx.d)),.d (.v (.bool A.by'.s)),.d (.v (.string A.by'.a)),.d (.v (.string A.by'.d)),.d (.v (.bool (A.bh))),.d (.v (.bool A.bt.s)),.d (.v (.string A.bt.a)),.d (.v (.string A.bt.d)),.d (.list (List.map lk A.links))])],fun j=>j≤A.links.length∧∀ p,p< j→pE A f g c p=0,fun j=>A.links.length - j,0,?_,⟨Nat.zero_le _,fun p h=>absurd h (Nat.not_lt_zero p)⟩,fun j hs=> ?_⟩
     ·constructor<;>(repeat' (first|exact rfl|exact True.intro|exact⟨_,_,rfl⟩|exact(by decide)|apply And.intro))
      all_goals first|exact congrArg (fun n:Int=>D.v (.int .i64 n)) (by omega)|exact congrArg (fun n:Int=>D.v (.int .i64 n)) (by rw [wrap64 _ (by omega) (by omega)];omega)|(simp;done)
     obtain⟨j1,j2⟩:=hs
     try simp only at j1 j2
     refine⟨fun e7=> ?_,fun e7=> ?_⟩
     ·have f61:(j:Int)< ((List.map lk A.links).length:Int):=of_decide_eq_true e7
      refine get_ex (l:=A.links) (i:=j) (by first|omega|exact Nat.mod_lt _ (by omega)) fun x63 hx63=> ?_
      obtain⟨hs1x63,hs2x63,hs3x63,hs4x63,hs5x63,hs6x63,hs7x63⟩:=z6 x63 (List.mem_of_getElem? hx63)
      have hspx63:=ZbD (ZbH hA0 (List.mem_of_getElem? hx63)).2.2.2.1
      have hsax63:=Zcm hx63
      have hsqx63:=x63.speed.z1
      refine k_ix j [D.v (.bool x63.len.s),D.v (.string x63.len.a),D.v (.string x63.len.d),D.v (.bool x63.low.s),D.v (.string x63.low.a),D.v (.string x63.low.d),D.v (.bool x63.high.s),D.v (.string x63.high.a),D.v (.string x63.high.d),D.v (.bool x63.speed.s),D.v (.string x63.speed.a),D.v (.string x63.speed.d),D.v (.bool x63.brake.s),D.v (.string x63.brake.a),D.v (.string x63.brake.d),D.list (List.map rdv x63.shape)] (by first|rfl|omega|(rw [wrap64 _ (by omega) (by omega)];omega)|(rw [wrap64 _ (by omega) (by omega)];split<;>omega)) (Zm hx63) rfl ?_
      refine get_ex (l:=g) (i:=j) (by first|omega|exact Nat.mod_lt _ (by omega)) fun x68 hx68=> ?_
      have hzx68:=hg.2 x68 (List.mem_of_getElem? hx68)
      have hzqx68:=x68.z1
      refine k_ix j [D.v (.bool x68.s),D.v (.string x68.a),D.v (.string x68.d)] (by first|rfl|omega|(rw [wrap64 _ (by omega) (by omega)];omega)|(rw [wrap64 _ (by omega) (by omega)];split<;>omega)) (Zm hx68) rfl ?_
      refine ZC (x:=x68) (by omega) fun q70 h70 z70=> ?_
      refine get_ex (l:=f) (i:=j) (by first|omega|exact Nat.mod_lt _ (by omega)) fun x73 hx73=> ?_
      have hzx73:=hf.2 x73 (List.mem_of_getElem? hx73)
      have hzqx73:=x73.z1
      refine k_ix j [D.v (.bool x73.s),D.v (.string x73.a),D.v (.string x73.d)] (by first|rfl|omega|(rw [wrap64 _ (by omega) (by omega)];omega)|(rw [wrap64 _ (by omega) (by omega)];split<;>omega)) (Zm hx73) rfl ?_
      refine ZC (x:=x73) (by omega) fun q75 h75 z75=> ?_
      refine ZdJ (p:=q70) (q:=q75) (by omega) (by omega) fun q76 h76 z76=> ?_
      refine Zlm (q:=q76)  (fun r77 hk_77_1 hk_77_2=> ?_)
      refine ZC (x:=x63.speed) (by omega) fun q80 h80 z80=> ?_
      refine get_ex (l:=c) (i:=j) (by first|omega|exact Nat.mod_lt _ (by omega)) fun x83 hx83=> ?_
      have hzx83:=hc.2 x83 (List.mem_of_getElem? hx83)
      have hzqx83:=x83.z1
      refine k_ix j [D.v (.bool x83.s),D.v (.string x83.a),D.v (.string x83.d)] (by first|rfl|omega|(rw [wrap64 _ (by omega) (by omega)];omega)|(rw [wrap64 _ (by omega) (by omega)];split<;>omega)) (Zm hx83) rfl ?_
      refine ZC (x:=x83) (by omega) fun q85 h85 z85=> ?_
      have e77:r77=dQ f g j:=by rw [hk_77_1,h76,h70,h75];unfold dQ;rw [ZD hx68,ZD hx73]
      refine ZnN (L:=pL A f g c j) (e:=pE A f g c j) (by decide) (by decide) (by omega) (by omega) (by omega) (by rw [e77,h80,h85,← hsax63,← ZD hx83];rfl) (by rw [e77,h80,h85,← hsax63,← ZD hx83];rfl) ?_
      refine⟨by kernel_rfl,?_⟩
      refine⟨fun e8=> ?_,fun e8=> ?_⟩
      ·have f90:pE A f g c j≠0:=Zay e8
       refine Eq.trans (b:= .tup [.one (.d (.list ([]))),.one (.d (.v (.int .i64 (pE A f g c j))))]) ?_ rfl
       have hE:=ZnC hB (fun p hp=>j2 p hp) f90 (by omega)
       rw [ZaE (by rw [hE];exact f90),hE]
       all_goals rfl
      ·have f90:¬ (pE A f g c j≠0):=fun hh=>hh (Zaz e8)
       have hmx:((nN A f g c (j+1):Nat):Int)=if ((List.map q3d (pL A f g c j)).length:Int) >(nN A f g c j:Int) then ((List.map q3d (pL A f g c j)).length:Int) else (nN A f g c j:Int):=by
        have e:nN A f g c (j+1)=max (nN A f g c j) (pL A f g c j).length:=rfl
        rw [e,List.length_map]
        split<;>omega
       refine⟨j+1,⟨by omega,fun p hp=>by
        by_cases e:p=j
        ·rw [e];exact Classical.not_not.1 f90
        ·exact j2 p (by omega)⟩,by simp only;omega,?_⟩
       constructor<;>(repeat' (first|exact rfl|exact True.intro|apply And.intro))
       all_goals first
        |exact congrArg (fun n:Int=>D.v (.int .i64 n)) hmx
        |exact congrArg (fun n:Int=>D.v (.int .i64 n)) hmx.symm
        |exact congrArg (fun n:Int=>D.v (.int .i64 n)) (by rw [wrap64 _ (by omega) (by omega)];omega)
        |exact congrArg (fun n:Int=>D.v (.int .i64 n)) (by omega)
     ·have f61:¬ ((j:Int)< ((List.map lk A.links).length:Int)):=of_decide_eq_false e7
      have hj:j=A.links.length:=by omega
      have hall:∀ p,p< A.links.length→pE A f g c p=0:=fun p hp=>j2 p (by omega)
      have hnT:nT A f g c=nN A f g c j:=by rw [hj];rfl
      have hnp:=Zen (A:=A) (f:=f) (g:=g) (c:=c)
      refine⟨fun e9=> ?_,fun e9=> ?_⟩
      ·have f100:IntKind.i64.wrap (t+(nN A f g c j:Int)) >2000:=of_decide_eq_true e9
       refine Eq.trans (b:= .tup [.one (.d (.list ([]))),.one (.d (.v (.int .i64 (19))))]) ?_ rfl
       have hE:=ZhS hB (fun p hp=>hall p hp) (by have h:=f100;rw [wrap64 _ (by omega) (by omega)] at h;omega)
       rw [ZaE (by rw [hE];decide),hE]
       all_goals rfl
      ·have f100:¬ (IntKind.i64.wrap (t+(nN A f g c j:Int)) >2000):=of_decide_eq_false e9
       have hlate:¬ 2000< t+(nT A f g c:Int):=by have h:=f100;rw [wrap64 _ (by omega) (by omega)] at h;omega
       have hw102:IntKind.i64.wrap ((nN A f g c j:Int)+1)=(nT A f g c:Int)+1:=by rw [hnT];exact wrap64 _ (by omega) (by omega)
       refine⟨_,_,⟨1,23,3,⟨by rw [hw102];omega,rfl,(by show (IntKind.i64.wrap ((nN A f g c j:Int)+1))*32≤_;rw [hw102];omega),by rw [hw102];omega⟩,⟨by decide,by decide⟩,rfl,rfl,rfl⟩,?_⟩
       refine⟨int ((List.replicate (IntKind.i64.wrap ((nN A f g c j:Int)+1)).toNat [D.v (.int .i64 (0)),D.list ([])]).length:Int),⟨⟨_,Tryz.underlying35⟩,rfl⟩,?_⟩
       have h00:List.replicate (IntKind.i64.wrap ((nN A f g c j:Int)+1)).toNat [D.v (.int .i64 0),D.list []]=List.map keyC (gridT t (nT A f g c) 0):=by rw [hw102,show ((nT A f g c:Int)+1).toNat=nT A f g c+1 by omega];exact ZoD
       have hLr:(List.replicate (IntKind.i64.wrap ((nN A f g c j:Int)+1)).toNat [D.v (.int .i64 0),D.list []]).length=nT A f g c+1:=by rw [h00];exact Zgk
       refine⟨Nat,fun k=> [(1,.val (.one (.d (.list (List.map rd f))))),(2,.val (.one (.d (.list (List.map rd g))))),(3,.val (.one (.d (.list (List.map rd c))))),(4,int t),(5,.val (.one (.ptr 5 0))),(15,int (nN A f g c j:Int)),(20,.val (.one (.m 103 0 .out))),(105,int ((List.replicate (IntKind.i64.wrap ((nN A f g c j:Int)+1)).toNat [D.v (.int .i64 (0)),D.list ([])]).length:Int)),(106,int (k:Int))],
        fun k=> [(5,.var 32 [.d (.v (.string A.name)),.d (.v (.bool A.bx.s)),.d (.v (.string A.bx.a)),.d (.v (.string A.bx.d)),.d (.v (.bool A.by'.s)),.d (.v (.string A.by'.a)),.d (.v (.string A.by'.d)),.d (.v (.bool (A.bh))),.d (.v (.bool A.bt.s)),.d (.v (.string A.bt.a)),.d (.v (.string A.bt.d)),.d (.list (List.map lk A.links))]),(103,.mat 42 2 1 23 3 0 0 0 (List.map keyC (gridT t (nT A f g c) k)) none)],fun k=>k≤nT A f g c+1,fun k=>nT A f g c+1 - k,0,?_,Nat.zero_le _,fun k hs=> ?_⟩
       ·constructor<;>(repeat' (first|exact rfl|exact True.intro|exact⟨_,_,rfl⟩|exact(by decide)|apply And.intro))
        all_goals first
         |exact h00
         |exact h00.symm
         |exact congrArg (fun n:Int=>D.v (.int .i64 n)) (by omega)
         |(simp;done)
       have hT:(List.map keyC (gridT t (nT A f g c) k)).length=nT A f g c+1:=Zgk
       refine⟨fun e10=> ?_,fun e10=> ?_⟩
       ·have f107:(k:Int)< ((List.replicate (IntKind.i64.wrap ((nN A f g c j:Int)+1)).toNat [D.v (.int .i64 (0)),D.list ([])]).length:Int):=of_decide_eq_true e10
        refine Zdb k (by first|rfl|omega|(rw [wrap64 _ (by omega) (by omega)];omega)|(rw [wrap64 _ (by omega) (by omega)];split<;>omega)) (by omega) ?_
        refine⟨(by omega),?_⟩
        have he2:(List.map keyC (gridT t (nT A f g c) k)).modify k (fun r=>repl r 0 [D.v (.int .i64 (IntKind.i64.wrap (t+(k:Int))))])=List.map keyC (gridT t (nT A f g c) (k+1)):=Zlu (wrap64 _ (by omega) (by omega))
        refine⟨k+1,by omega,by simp only;omega,?_⟩
        constructor<;>(repeat' (first|exact rfl|exact True.intro|apply And.intro))
        all_goals first
         |exact he2
         |exact he2.symm
         |exact congrArg (fun n:Int=>D.v (.int .i64 n)) (by rw [wrap64 _ (by omega) (by omega)];omega)
         |exact congrArg (fun n:Int=>D.v (.int .i64 n)) (by omega)
       ·have f107:¬ ((k:Int)< ((List.replicate (IntKind.i64.wrap ((nN A f g c j:Int)+1)).toNat [D.v (.int .i64 (0)),D.list ([])]).length:Int)):=of_decide_eq_false e10
        have hkn:k=nT A f g c+1:=by omega
        have h01:List.map keyC (gridT t (nT A f g c) k)=List.map keyC (grid t (nT A f g c) (rowR (vA A f g c (nT A f g c)) 0 0)):=by rw [hkn];exact congrArg (List.map keyC) (ZoC _ fun j _=>Zpb)
        refine⟨Nat,fun i=> [(1,.val (.one (.d (.list (List.map rd f))))),(2,.val (.one (.d (.list (List.map rd g))))),(3,.val (.one (.d (.list (List.map rd c))))),(15,int (nN A f g c j:Int)),(20,.val (.one (.m 103 0 .out))),(118,.val (.one (.d (.list (List.map lk A.links))))),(119,int ((List.map lk A.links).length:Int)),(120,int (i:Int))],
         fun i=> [(103,.mat 42 2 1 23 3 0 0 0 (List.map keyC (grid t (nT A f g c) (rowR (vA A f g c (nT A f g c)) i 0))) none)],fun i=>i≤A.links.length,fun i=>A.links.length - i,0,?_,Nat.zero_le _,fun i hs=> ?_⟩
        ·constructor<;>(repeat' (first|exact rfl|exact True.intro|exact⟨_,_,rfl⟩|exact(by decide)|apply And.intro))
         all_goals first
          |exact h01
          |exact h01.symm
          |exact congrArg (fun n:Int=>D.v (.int .i64 n)) (by omega)
          |(simp;done)
        have hT0:(List.map keyC (grid t (nT A f g c) (rowR (vA A f g c (nT A f g c)) i 0))).length=nT A f g c+1:=ZaN
        refine⟨fun e11=> ?_,fun e11=> ?_⟩
        ·have f121:(i:Int)< ((List.map lk A.links).length:Int):=of_decide_eq_true e11
         refine get_ex (l:=A.links) (i:=i) (by first|omega|exact Nat.mod_lt _ (by omega)) fun x123 hx123=> ?_
         obtain⟨hs1x123,hs2x123,hs3x123,hs4x123,hs5x123,hs6x123,hs7x123⟩:=z6 x123 (List.mem_of_getElem? hx123)
         have hspx123:=ZbD (ZbH hA0 (List.mem_of_getElem? hx123)).2.2.2.1
         have hsax123:=Zcm hx123
         have hsqx123:=x123.speed.z1
         refine k_ix i [D.v (.bool x123.len.s),D.v (.string x123.len.a),D.v (.string x123.len.d),D.v (.bool x123.low.s),D.v (.string x123.low.a),D.v (.string x123.low.d),D.v (.bool x123.high.s),D.v (.string x123.high.a),D.v (.string x123.high.d),D.v (.bool x123.speed.s),D.v (.string x123.speed.a),D.v (.string x123.speed.d),D.v (.bool x123.brake.s),D.v (.string x123.brake.a),D.v (.string x123.brake.d),D.list (List.map rdv x123.shape)] (by first|rfl|omega|(rw [wrap64 _ (by omega) (by omega)];omega)|(rw [wrap64 _ (by omega) (by omega)];split<;>omega)) (Zm hx123) rfl ?_
         refine get_ex (l:=g) (i:=i) (by first|omega|exact Nat.mod_lt _ (by omega)) fun x127 hx127=> ?_
         have hzx127:=hg.2 x127 (List.mem_of_getElem? hx127)
         have hzqx127:=x127.z1
         refine k_ix i [D.v (.bool x127.s),D.v (.string x127.a),D.v (.string x127.d)] (by first|rfl|omega|(rw [wrap64 _ (by omega) (by omega)];omega)|(rw [wrap64 _ (by omega) (by omega)];split<;>omega)) (Zm hx127) rfl ?_
         refine ZC (x:=x127) (by omega) fun q129 h129 z129=> ?_
         refine get_ex (l:=f) (i:=i) (by first|omega|exact Nat.mod_lt _ (by omega)) fun x132 hx132=> ?_
         have hzx132:=hf.2 x132 (List.mem_of_getElem? hx132)
         have hzqx132:=x132.z1
         refine k_ix i [D.v (.bool x132.s),D.v (.string x132.a),D.v (.string x132.d)] (by first|rfl|omega|(rw [wrap64 _ (by omega) (by omega)];omega)|(rw [wrap64 _ (by omega) (by omega)];split<;>omega)) (Zm hx132) rfl ?_
         refine ZC (x:=x132) (by omega) fun q134 h134 z134=> ?_
         refine ZdJ (p:=q129) (q:=q134) (by omega) (by omega) fun q135 h135 z135=> ?_
         refine k_ix i [D.v (.bool x132.s),D.v (.string x132.a),D.v (.string x132.d)] (by first|rfl|omega|(rw [wrap64 _ (by omega) (by omega)];omega)|(rw [wrap64 _ (by omega) (by omega)];split<;>omega)) (Zm hx132) rfl ?_
         refine ZC (x:=x132) (by omega) fun q140 h140 z140=> ?_
         refine⟨by kernel_rfl,?_⟩
         refine Zlm (q:=q135)  (fun r143 hk_143_1 hk_143_2=> ?_)
         refine ZC (x:=x123.speed) (by omega) fun q146 h146 z146=> ?_
         refine get_ex (l:=c) (i:=i) (by first|omega|exact Nat.mod_lt _ (by omega)) fun x149 hx149=> ?_
         have hzx149:=hc.2 x149 (List.mem_of_getElem? hx149)
         have hzqx149:=x149.z1
         refine k_ix i [D.v (.bool x149.s),D.v (.string x149.a),D.v (.string x149.d)] (by first|rfl|omega|(rw [wrap64 _ (by omega) (by omega)];omega)|(rw [wrap64 _ (by omega) (by omega)];split<;>omega)) (Zm hx149) rfl ?_
         refine ZC (x:=x149) (by omega) fun q151 h151 z151=> ?_
         have e143:r143=dQ f g i:=by rw [hk_143_1,h135,h129,h134];unfold dQ;rw [ZD hx127,ZD hx132]
         have hpi:=hall i (by omega)
         refine ZnN (L:=pM A f g c (nT A f g c) i) (e:=0) (by omega) (by omega) (by omega) (by omega) (by omega) (by rw [e143,h146,h151,← hsax123,← ZD hx149,← hnT];rfl) (by rw [e143,h146,h151,← hsax123,← ZD hx149,← hnT];exact(ZkL (by omega) hpi).1) ?_
         have hPn:=ZnF (show i< A.links.length by omega) hpi
         have hPl:(List.map q3d (pM A f g c (nT A f g c) i)).length=nT A f g c:=by rw [List.length_map];exact hPn
         have hdq:qs (dQ f g i)≤2097157:=by rw [← e143];omega
         have hsx:qs (spdAt A i)+qs (qAt c i)≤1048600:=by rw [hsax123,ZD hx149];omega
         have hfx:qs (qAt f i)≤1048577:=by rw [ZD hx132];omega
         refine⟨by kernel_rfl,?_⟩
         refine⟨int ((List.map keyC (grid t (nT A f g c) (rowR (vA A f g c (nT A f g c)) i 0))).length:Int),⟨⟨_,Tryz.underlying35⟩,rfl⟩,?_⟩
         have e140:q140=(vA A f g c (nT A f g c)) i (0 - 1):=by rw [h140,show 0 - 1=0 from rfl,vA_0,ZD hx132]
         refine⟨Nat,fun k=> [(1,.val (.one (.d (.list (List.map rd f))))),(2,.val (.one (.d (.list (List.map rd g))))),(3,.val (.one (.d (.list (List.map rd c))))),(15,int (nN A f g c j:Int)),(20,.val (.one (.m 103 0 .out))),(24,.val (.one (.ptr 24 0))),(25,.val (.one (.ptr 25 0))),(26,.val (.one (.d (.list (List.map q3d (pM A f g c (nT A f g c) i)))))),(118,.val (.one (.d (.list (List.map lk A.links))))),(119,int ((List.map lk A.links).length:Int)),(120,int (i:Int)),(157,int ((List.map keyC (grid t (nT A f g c) (rowR (vA A f g c (nT A f g c)) i 0))).length:Int)),(158,int (k:Int))],
          fun k=> [(24,.var 65 [.d (.v (.bool (decide (q135.num< 0)))),.d (.list (W (w32 q135.num.natAbs))),.d (.list (W (w32 q135.den)))]),(25,.var 65 [.d (.v (.bool (decide ((vA A f g c (nT A f g c) i (k - 1)).num< 0)))),.d (.list (W (w32 (vA A f g c (nT A f g c) i (k - 1)).num.natAbs))),.d (.list (W (w32 (vA A f g c (nT A f g c) i (k - 1)).den)))]),(103,.mat 42 2 1 23 3 0 0 0 (List.map keyC (grid t (nT A f g c) (rowR (vA A f g c (nT A f g c)) i k))) none)],fun k=>k≤nT A f g c+1,fun k=>nT A f g c+1 - k,0,?_,Nat.zero_le _,fun k hs=> ?_⟩
         ·constructor<;>(repeat' (first|exact rfl|exact True.intro|exact⟨_,_,rfl⟩|exact(by decide)|apply And.intro))
          all_goals first
           |exact congrArg (fun q:Rat=>D.v (.bool (decide (q.num< 0)))) e140
           |exact congrArg (fun q:Rat=>D.v (.bool (decide (q.num< 0)))) e140.symm
           |exact congrArg (fun q:Rat=>D.list (W (w32 q.num.natAbs))) e140
           |exact congrArg (fun q:Rat=>D.list (W (w32 q.num.natAbs))) e140.symm
           |exact congrArg (fun q:Rat=>D.list (W (w32 q.den))) e140
           |exact congrArg (fun q:Rat=>D.list (W (w32 q.den))) e140.symm
           |exact congrArg (fun n:Int=>D.v (.int .i64 n)) (by omega)
           |(simp;done)
         have hT:(List.map keyC (grid t (nT A f g c) (rowR (vA A f g c (nT A f g c)) i k))).length=nT A f g c+1:=ZaN
         have hR:(List.map rdc (rowR (vA A f g c (nT A f g c)) i k k)).length=i:=by rw [List.length_map];exact ZmB
         have hzN:qs (vA A f g c (nT A f g c) i (k - 1))≤6000000:=by have:=Zn3 (show i< A.links.length by omega) hpi hfx hdq hsx (k - 1);omega
         refine⟨fun e12=> ?_,fun e12=> ?_⟩
         ·have f159:(k:Int)< ((List.map keyC (grid t (nT A f g c) (rowR (vA A f g c (nT A f g c)) i 0))).length:Int):=of_decide_eq_true e12
          refine fork (fun e13=> ?_) (fun e13=> ?_)
          ·have f163:(k:Int) >0:=of_decide_eq_true e13
           refine Zat (q:=q135) fun n165 h165=> ?_
           refine⟨fun e14=> ?_,fun e14=> ?_⟩
           ·have f167:q135< 0:=(Zdy h165).1 (of_decide_eq_true e14)
            have hlt:qAt g i< qAt f i:=by have h:=f167;rw [h135,h129,h134] at h;rw [ZD hx127,ZD hx132];grind
            refine get_ex (l:=(pM A f g c (nT A f g c) i)) (i:=(k - 1)) (by first|omega|exact Nat.mod_lt _ (by omega)) fun x172 hx172=> ?_
            have hzx172:qs x172≤6000000:=by have:=Zon (show i< A.links.length by omega) hpi hdq hsx (List.mem_of_getElem? hx172);omega
            refine k_ix (k - 1) [D.v (.bool (decide (x172.num< 0))),D.list (W (w32 x172.num.natAbs)),D.list (W (w32 x172.den))] (by first|rfl|omega|(rw [wrap64 _ (by omega) (by omega)];omega)|(rw [wrap64 _ (by omega) (by omega)];split<;>omega)) (Zm hx172) rfl ?_
            refine ZdJ (p:=(vA A f g c (nT A f g c) i (k - 1))) (q:=x172) (by omega) (by omega) fun q174 h174 z174=> ?_
            refine⟨by kernel_rfl,?_⟩
            refine Zdb k (by first|rfl|omega|(rw [wrap64 _ (by omega) (by omega)];omega)|(rw [wrap64 _ (by omega) (by omega)];split<;>omega)) (by omega) ?_
            refine⟨_,⟨(by omega),(fun c h=>by cases h),rfl⟩,?_⟩
            refine Zoz (q:=q174) (by omega) ?_
            refine⟨_,_,⟨_,(ZT (by omega)),⟨row1 rfl,(by show ((List.map rdc (rowR (vA A f g c (nT A f g c)) i k k)).length+1)*40≤_;omega),(by show ((List.map rdc (rowR (vA A f g c (nT A f g c)) i k k)).length+1)≤_;omega)⟩,rfl,rfl⟩,?_⟩
            refine Zdb k (by first|rfl|omega|(rw [wrap64 _ (by omega) (by omega)];omega)|(rw [wrap64 _ (by omega) (by omega)];split<;>omega)) (by omega) ?_
            refine⟨⟨rfl,rfl,(by omega)⟩,?_⟩
            refine⟨by kernel_rfl,?_⟩
            have eN:q174=(vA A f g c (nT A f g c)) i (k+1 - 1):=by
             obtain⟨p,rfl⟩:∃ p,k=p+1:=⟨k - 1,by omega⟩
             have h:=ZeI hx172
             rw [if_pos hlt] at h
             rw [h174]
             exact h.symm
            have he4:(List.map keyC (grid t (nT A f g c) (rowR (vA A f g c (nT A f g c)) i k))).modify k (fun r=>r.set 1 (.list (List.map rdc (rowR (vA A f g c (nT A f g c)) i k k)++ [rdc q174])))=List.map keyC (grid t (nT A f g c) (rowR (vA A f g c (nT A f g c)) i (k+1))):=by rw [eN];exact Zfi (q:=(vA A f g c (nT A f g c)) i k) (ZeW (n:=(nT A f g c)))
            refine⟨k+1,by omega,by simp only;omega,?_⟩
            constructor<;>(repeat' (first|exact rfl|exact True.intro|apply And.intro))
            all_goals first
             |exact he4
             |exact he4.symm
             |exact congrArg (fun q:Rat=>D.v (.bool (decide (q.num< 0)))) eN
             |exact congrArg (fun q:Rat=>D.v (.bool (decide (q.num< 0)))) eN.symm
             |exact congrArg (fun q:Rat=>D.list (W (w32 q.num.natAbs))) eN
             |exact congrArg (fun q:Rat=>D.list (W (w32 q.num.natAbs))) eN.symm
             |exact congrArg (fun q:Rat=>D.list (W (w32 q.den))) eN
             |exact congrArg (fun q:Rat=>D.list (W (w32 q.den))) eN.symm
             |exact congrArg (fun n:Int=>D.v (.int .i64 n)) (by rw [wrap64 _ (by omega) (by omega)];omega)
             |exact congrArg (fun n:Int=>D.v (.int .i64 n)) (by omega)
           ·have f167:¬ (q135< 0):=fun hh=>of_decide_eq_false e14 ((Zdy h165).2 hh)
            have hlt:¬ qAt g i< qAt f i:=by have h:=f167;rw [h135,h129,h134] at h;rw [ZD hx127,ZD hx132];grind
            refine⟨fun e15=> ?_,fun e15=> ?_⟩
            ·have f176:(k:Int) >0:=of_decide_eq_true e15
             refine get_ex (l:=(pM A f g c (nT A f g c) i)) (i:=(k - 1)) (by first|omega|exact Nat.mod_lt _ (by omega)) fun x181 hx181=> ?_
             have hzx181:qs x181≤6000000:=by have:=Zon (show i< A.links.length by omega) hpi hdq hsx (List.mem_of_getElem? hx181);omega
             refine k_ix (k - 1) [D.v (.bool (decide (x181.num< 0))),D.list (W (w32 x181.num.natAbs)),D.list (W (w32 x181.den))] (by first|rfl|omega|(rw [wrap64 _ (by omega) (by omega)];omega)|(rw [wrap64 _ (by omega) (by omega)];split<;>omega)) (Zm hx181) rfl ?_
             refine Zih (p:=(vA A f g c (nT A f g c) i (k - 1))) (q:=x181) (by omega) (by omega) fun q183 h183 z183=> ?_
             refine⟨by kernel_rfl,?_⟩
             refine Zdb k (by first|rfl|omega|(rw [wrap64 _ (by omega) (by omega)];omega)|(rw [wrap64 _ (by omega) (by omega)];split<;>omega)) (by omega) ?_
             refine⟨_,⟨(by omega),(fun c h=>by cases h),rfl⟩,?_⟩
             refine Zoz (q:=q183) (by omega) ?_
             refine⟨_,_,⟨_,(ZT (by omega)),⟨row1 rfl,(by show ((List.map rdc (rowR (vA A f g c (nT A f g c)) i k k)).length+1)*40≤_;omega),(by show ((List.map rdc (rowR (vA A f g c (nT A f g c)) i k k)).length+1)≤_;omega)⟩,rfl,rfl⟩,?_⟩
             refine Zdb k (by first|rfl|omega|(rw [wrap64 _ (by omega) (by omega)];omega)|(rw [wrap64 _ (by omega) (by omega)];split<;>omega)) (by omega) ?_
             refine⟨⟨rfl,rfl,(by omega)⟩,?_⟩
             refine⟨by kernel_rfl,?_⟩
             have eN:q183=(vA A f g c (nT A f g c)) i (k+1 - 1):=by
              obtain⟨p,rfl⟩:∃ p,k=p+1:=⟨k - 1,by omega⟩
              have h:=ZeI hx181
              rw [if_neg hlt] at h
              rw [h183]
              exact h.symm
             have he4:(List.map keyC (grid t (nT A f g c) (rowR (vA A f g c (nT A f g c)) i k))).modify k (fun r=>r.set 1 (.list (List.map rdc (rowR (vA A f g c (nT A f g c)) i k k)++ [rdc q183])))=List.map keyC (grid t (nT A f g c) (rowR (vA A f g c (nT A f g c)) i (k+1))):=by rw [eN];exact Zfi (q:=(vA A f g c (nT A f g c)) i k) (ZeW (n:=(nT A f g c)))
             refine⟨k+1,by omega,by simp only;omega,?_⟩
             constructor<;>(repeat' (first|exact rfl|exact True.intro|apply And.intro))
             all_goals first
              |exact he4
              |exact he4.symm
              |exact congrArg (fun q:Rat=>D.v (.bool (decide (q.num< 0)))) eN
              |exact congrArg (fun q:Rat=>D.v (.bool (decide (q.num< 0)))) eN.symm
              |exact congrArg (fun q:Rat=>D.list (W (w32 q.num.natAbs))) eN
              |exact congrArg (fun q:Rat=>D.list (W (w32 q.num.natAbs))) eN.symm
              |exact congrArg (fun q:Rat=>D.list (W (w32 q.den))) eN
              |exact congrArg (fun q:Rat=>D.list (W (w32 q.den))) eN.symm
              |exact congrArg (fun n:Int=>D.v (.int .i64 n)) (by rw [wrap64 _ (by omega) (by omega)];omega)
              |exact congrArg (fun n:Int=>D.v (.int .i64 n)) (by omega)
            ·have f176:¬ ((k:Int) >0):=of_decide_eq_false e15
             exfalso
             omega
          ·have f163:¬ ((k:Int) >0):=of_decide_eq_false e13
           refine⟨fun e=>absurd e (by decide),fun _=> ?_⟩
           refine⟨fun e16=> ?_,fun e16=> ?_⟩
           ·have f176:(k:Int) >0:=of_decide_eq_true e16
            exfalso
            omega
           ·have f176:¬ ((k:Int) >0):=of_decide_eq_false e16
            refine Zdb k (by first|rfl|omega|(rw [wrap64 _ (by omega) (by omega)];omega)|(rw [wrap64 _ (by omega) (by omega)];split<;>omega)) (by omega) ?_
            refine⟨_,⟨(by omega),(fun c h=>by cases h),rfl⟩,?_⟩
            refine Zoz (q:=(vA A f g c (nT A f g c) i (k - 1))) (by omega) ?_
            refine⟨_,_,⟨_,(ZT (by omega)),⟨row1 rfl,(by show ((List.map rdc (rowR (vA A f g c (nT A f g c)) i k k)).length+1)*40≤_;omega),(by show ((List.map rdc (rowR (vA A f g c (nT A f g c)) i k k)).length+1)≤_;omega)⟩,rfl,rfl⟩,?_⟩
            refine Zdb k (by first|rfl|omega|(rw [wrap64 _ (by omega) (by omega)];omega)|(rw [wrap64 _ (by omega) (by omega)];split<;>omega)) (by omega) ?_
            refine⟨⟨rfl,rfl,(by omega)⟩,?_⟩
            refine⟨by kernel_rfl,?_⟩
            have eN:(vA A f g c (nT A f g c) i (k - 1))=(vA A f g c (nT A f g c)) i (k+1 - 1):=by
             obtain rfl:k=0:=by omega
             rfl
            have he4:(List.map keyC (grid t (nT A f g c) (rowR (vA A f g c (nT A f g c)) i k))).modify k (fun r=>r.set 1 (.list (List.map rdc (rowR (vA A f g c (nT A f g c)) i k k)++ [rdc (vA A f g c (nT A f g c) i (k - 1))])))=List.map keyC (grid t (nT A f g c) (rowR (vA A f g c (nT A f g c)) i (k+1))):=by rw [eN];exact Zfi (q:=(vA A f g c (nT A f g c)) i k) (ZeW (n:=(nT A f g c)))
            refine⟨k+1,by omega,by simp only;omega,?_⟩
            constructor<;>(repeat' (first|exact rfl|exact True.intro|apply And.intro))
            all_goals first
             |exact he4
             |exact he4.symm
             |exact congrArg (fun q:Rat=>D.v (.bool (decide (q.num< 0)))) eN
             |exact congrArg (fun q:Rat=>D.v (.bool (decide (q.num< 0)))) eN.symm
             |exact congrArg (fun q:Rat=>D.list (W (w32 q.num.natAbs))) eN
             |exact congrArg (fun q:Rat=>D.list (W (w32 q.num.natAbs))) eN.symm
             |exact congrArg (fun q:Rat=>D.list (W (w32 q.den))) eN
             |exact congrArg (fun q:Rat=>D.list (W (w32 q.den))) eN.symm
             |exact congrArg (fun n:Int=>D.v (.int .i64 n)) (by rw [wrap64 _ (by omega) (by omega)];omega)
             |exact congrArg (fun n:Int=>D.v (.int .i64 n)) (by omega)
         ·have f159:¬ ((k:Int)< ((List.map keyC (grid t (nT A f g c) (rowR (vA A f g c (nT A f g c)) i 0))).length:Int)):=of_decide_eq_false e12
          have hke:k=nT A f g c+1:=by omega
          have he3:List.map keyC (grid t (nT A f g c) (rowR (vA A f g c (nT A f g c)) i k))=List.map keyC (grid t (nT A f g c) (rowR (vA A f g c (nT A f g c)) (i+1) 0)):=by rw [hke];exact congrArg (List.map keyC) (ZdN fun j hj=>Zkp hj)
          refine⟨i+1,by omega,by simp only;omega,?_⟩
          constructor<;>(repeat' (first|exact rfl|exact True.intro|apply And.intro))
          all_goals first
           |exact he3
           |exact he3.symm
           |exact congrArg (fun n:Int=>D.v (.int .i64 n)) (by rw [wrap64 _ (by omega) (by omega)];omega)
           |exact congrArg (fun n:Int=>D.v (.int .i64 n)) (by omega)
        ·have f121:¬ ((i:Int)< ((List.map lk A.links).length:Int)):=of_decide_eq_false e11
         refine Eq.trans (b:= .tup [.one (.d (.list (List.map keyC (grid t (nT A f g c) (rowR (vA A f g c (nT A f g c)) i 0))))),.one (.d (.v (.int .i64 (0))))]) ?_ rfl
         obtain rfl:i=A.links.length:=by omega
         have hE:=Zod hB (fun p hp=>hall p hp) (by have h:=hlate;omega)
         have hV:smL A f g c t=grid t (nT A f g c) (rowR (vA A f g c (nT A f g c)) A.links.length 0):=ZdN fun j _=>(ZmC).symm
         rw [ZhR hE,hE,hV]
         all_goals rfl
theorem Zjh {A:ArmV} {f g c:List RV} {t:Int} (hA:A.ok) (hf:f.length≤1048576∧∀ x,x∈f→x.z≤1048576) (hg:g.length≤1048576∧∀ x,x∈g→x.z≤1048576) (hc:c.length≤1048576∧∀ x,x∈c→x.z≤1048576) (ht:-9223372036854775808≤t∧t≤9223372036854775807) (k:∀ n,n=smE A f g c t→K (.tup [.one (.d (.list (List.map keyC (smV A f g c t)))),.one (.d (.v (.int .i64 n)))])):Ask 7 [.val (.agg [.d (.v (.string A.name)),.d (.v (.bool A.bx.s)),.d (.v (.string A.bx.a)),.d (.v (.string A.bx.d)),.d (.v (.bool A.by'.s)),.d (.v (.string A.by'.a)),.d (.v (.string A.by'.d)),.d (.v (.bool (A.bh))),.d (.v (.bool A.bt.s)),.d (.v (.string A.bt.a)),.d (.v (.string A.bt.d)),.d (.list (List.map lk A.links))]),.val (.one (.d (.list (List.map rd f)))),.val (.one (.d (.list (List.map rd g)))),.val (.one (.d (.list (List.map rd c)))),int t] K:=use (Zfs A f g c t hA hf hg hc ht) rfl (k _ rfl)
end
end Go.Proofs.YtjlhknppkodilaaGreatDoor.eng
namespace Go.Proofs.YtjlhknppkodilaaGreatDoor.eng
open Go.RowKit num mem seg q held ratA ratB ratC ratD ratE vars ratF argopen trq prf smo
section
variable {K : AV → Prop}
theorem fits3s {n:Nat} (h:n< 3):fitsE (sampA [3]) (natRV [n])=0:=by
 have c:hasE (sampA [3]) ((natRV [n]).length:Int)=0:=Zkh (by decide) (by decide) (by decide) rfl
 unfold fitsE
 rw [if_pos c,if_neg]
 rintro⟨i,l,x,hl,hx,hh⟩
 have hi:i< 1:=(List.getElem?_eq_some_iff.1 hx).1
 obtain rfl:i=0:=by omega
 obtain rfl:=Option.some.inj (show some (sampL 3)=some l from hl)
 obtain rfl:=Option.some.inj (show some (cn (n:Rat))=some x from hx)
 rw [cn_q,show (sampL 3).low.q=m2Q from cn_q _,show (sampL 3).high.q=n2Q from cn_q _] at hh
 rcases (show n=0∨n=1∨n=2 by omega) with rfl|rfl|rfl<;>revert hh<;>decide+kernel
theorem ZkY {n:Nat} (h:n< 256):(natRV [n]).length≤1048576∧∀ x,x∈natRV [n]→x.z≤1048576:=⟨by show 1≤1048576;omega,fun x hx=>Nat.le_trans (Zop (fun m hm=>by obtain rfl:=List.mem_singleton.1 hm;exact h) x hx) (by decide)⟩
theorem Zob:dQ (natRV [0]) (natRV [1]) 0=1:=by
 unfold dQ
 rw [ZD (x:=cn ((1:Nat):Rat)) rfl,ZD (x:=cn ((0:Nat):Rat)) rfl,cn_q,cn_q]
 decide+kernel
theorem Zoc:qAt (natRV [1]) 0=1:=by
 rw [ZD (x:=cn ((1:Nat):Rat)) rfl,cn_q]
 decide+kernel
theorem Zoa:spdAt (sampA [3]) 0=q4Q:=(Zcm (l:=sampL 3) rfl).trans (cn_q _)
theorem ZnH:needN q4Q 1 1=4:=by
 unfold needN
 have e1:enough q4Q 1 1 1=false:=by decide+kernel
 have e2:enough q4Q 1 1 2=false:=by decide+kernel
 have e3:enough q4Q 1 1 3=false:=by decide+kernel
 have e4:enough q4Q 1 1 4=true:=by decide+kernel
 show firstN (enough q4Q 1 1) (46+1+1+1+1) 1=4
 rw [firstN,e1]
 show firstN (enough q4Q 1 1) (46+1+1+1) 2=4
 rw [firstN,e2]
 show firstN (enough q4Q 1 1) (46+1+1) 3=4
 rw [firstN,e3]
 show firstN (enough q4Q 1 1) (46+1) 4=4
 rw [firstN,e4];rfl
theorem Zo2:pE (sampA [3]) (natRV [0]) (natRV [1]) (natRV [1]) 0=0:=by
 unfold pE
 rw [Zob,Zoa,Zoc]
 exact ZcL (by decide+kernel) (by rw [ZnH];omega)
theorem Zo3:nT (sampA [3]) (natRV [0]) (natRV [1]) (natRV [1])=4:=by
 have h:(pL (sampA [3]) (natRV [0]) (natRV [1]) (natRV [1]) 0).length=4:=by
  have h:=(p_ok Zo2).2.2
  rw [Zob,Zoa,Zoc,ZnH] at h
  unfold pL
  rw [Zob,Zoa,Zoc]
  exact h
 show max 1 (pL (sampA [3]) (natRV [0]) (natRV [1]) (natRV [1]) 0).length=4
 rw [h];rfl
theorem Zo4:smE (sampA [3]) (natRV [0]) (natRV [1]) (natRV [1]) 7=0:=Zod (Zog (fits3s (by decide)) (fits3s (by decide)) (by decide)) (fun j hj=>by
 have hj:j< 1:=hj
 obtain rfl:j=0:=by omega
 exact Zo2) (by rw [Zo3];decide)
def smpW (j:Nat):List Rat:=(List.range 1).map fun i=>vA (sampA [3]) (natRV [0]) (natRV [1]) (natRV [1]) 4 i j
theorem Zp0:smV (sampA [3]) (natRV [0]) (natRV [1]) (natRV [1]) 7=grid 7 4 smpW:=by
 rw [ZhR Zo4]
 unfold smL
 rw [Zo3];rfl
theorem Zln (k:∀ l0,l0=grid 7 4 smpW→K (.tup [.one (.d (.list (List.map keyC l0))),.one (.d (.v (.int .i64 0)))])):Ask 4 [.val (.agg [.d (.v (.string ((sampA [3]).name))),.d (.v (.bool ((sampA [3]).bx).s)),.d (.v (.string ((sampA [3]).bx).a)),.d (.v (.string ((sampA [3]).bx).d)),.d (.v (.bool ((sampA [3]).by').s)),.d (.v (.string ((sampA [3]).by').a)),.d (.v (.string ((sampA [3]).by').d)),.d (.v (.bool ((sampA [3]).bh))),.d (.v (.bool ((sampA [3]).bt).s)),.d (.v (.string ((sampA [3]).bt).a)),.d (.v (.string ((sampA [3]).bt).d)),.d (.list (List.map lk ((sampA [3]).links)))]),.val (.one (.d (.list (List.map rd (natRV [0]))))),.val (.one (.d (.list (List.map rd (natRV [1]))))),.val (.one (.d (.list (List.map rd (natRV [1]))))),int 7] K:=Zig (Ze7 (ZhW (by decide) (by decide)) (by decide)) (ZkY (by decide)) (ZkY (by decide)) (ZkY (by decide)) (by decide) fun n hn=>by
 obtain rfl:=hn.trans Zo4
 rw [Zp0];exact k _ rfl
set_option maxHeartbeats 8000000 in
theorem Zck (A:ArmV) (f g c:List RV) (t:Int) (hA:A.ok) (hf:f.length≤1048576∧∀ x,x∈f→x.z≤1048576) (hg:g.length≤1048576∧∀ x,x∈g→x.z≤1048576) (hc:c.length≤1048576∧∀ x,x∈c→x.z≤1048576) (ht:-9223372036854775808≤t∧t≤9223372036854775807):Spec Tryz.prog Tab 3 [.val (.agg [.d (.v (.string A.name)),.d (.v (.bool A.bx.s)),.d (.v (.string A.bx.a)),.d (.v (.string A.bx.d)),.d (.v (.bool A.by'.s)),.d (.v (.string A.by'.a)),.d (.v (.string A.by'.d)),.d (.v (.bool (A.bh))),.d (.v (.bool A.bt.s)),.d (.v (.string A.bt.a)),.d (.v (.string A.bt.d)),.d (.list (List.map lk A.links))]),.val (.one (.d (.list (List.map rd f)))),.val (.one (.d (.list (List.map rd g)))),.val (.one (.d (.list (List.map rd c)))),int t] (bool true):=by
 have hA2:=hA
 have o3:(sampA [3]).ok:=Ze7 (ZhW (by decide) (by decide)) (by decide)
 have a3:armE (sampA [3])=0:=ZhX (by decide) (by decide) (by decide)
 refine Zf Tryz.func3 rfl rfl Tryz.ntmps3 rfl (by kernel_rfl) rfl rfl ?_
 refine Zm9 [3] rfl (by decide) (by decide) ?_
 refine Zhh [0] rfl (by decide) (by decide) ?_
 refine Zhh [1] rfl (by decide) (by decide) ?_
 refine Zhh [1] rfl (by decide) (by decide) ?_
 refine Zln fun l0 hl0=> ?_
 refine fork (fun e1=> ?_) (fun e1=> ?_)
 ·have f36:((List.map keyC l0).length:Int)≠5:=Zay e1
  exfalso
  exact f36 (by rw [hl0,ZaN];rfl)
 ·have f36:¬ (((List.map keyC l0).length:Int)≠5):=fun hh=>hh (Zaz e1)
  refine get_ex (l:=l0) (i:=4) (by rw [hl0,Zfg];decide) fun x38 hx38=> ?_
  refine k_ix 4 [D.v (.int .i64 (x38.1)),D.list (List.map rdc x38.2)] (by first|rfl|omega|(rw [wrap64 _ (by omega) (by omega)];omega)|(rw [wrap64 _ (by omega) (by omega)];split<;>omega)) (Zm hx38) rfl ?_
  refine⟨fun e2=> ?_,fun e2=> ?_⟩
  ·have f42:x38.1≠11:=Zay e2
   exfalso
   exact f42 (by rw [hl0] at hx38;rw [← Option.some.inj ((Zfh (w:=smpW) (t:=7) (show 4≤4 from Nat.le_refl _)).symm.trans hx38)];rfl)
  ·have f42:¬ (x38.1≠11):=fun hh=>hh (Zaz e2)
   refine Zig (A:=A) (f:=f) (g:=g) (c:=c) (t:=t) hA2 hf hg hc ht fun n49 hk_49_1=> ?_
   refine Zjh (A:=A) (f:=f) (g:=g) (c:=c) (t:=t) hA2 hf hg hc ht fun n58 hk_58_1=> ?_
   refine⟨fun e3=> ?_,fun e3=> ?_⟩
   ·have f62:n58≠0:=Zay e3
    refine fork (fun e4=> ?_) (fun e4=> ?_)
    ·have f66:n49=n58:=Zjw e4
     refine Eq.trans (b:=bool (((List.map keyC (smV A f g c t)).length:Int)==0)) ?_ rfl
     rw [ZaE (by rw [← hk_58_1];exact f62)];rfl
    ·have f66:¬ (n49=n58):=Zjx e4
     exfalso
     exact f66 (by rw [hk_49_1,hk_58_1])
   ·have f62:¬ (n58≠0):=fun hh=>hh (Zaz e3)
    refine fork (fun e5=> ?_) (fun e5=> ?_)
    ·have f73:n49=0:=Zjw e5
     refine ZpA (smV A f g c t) rfl rfl Zo5.1 Zo5.2 ?_
     refine Eq.trans (b:=bool true) ?_ rfl
     rfl
    ·have f73:¬ (n49=0):=Zjx e5
     exfalso
     exact f73 (by rw [hk_49_1,← hk_58_1];exact Classical.not_not.1 f62)
theorem timingSmooths_walk (v0:Value) (A0:ArmV) (v1:Value) (l1:List RV) (v2:Value) (l2:List RV) (v3:Value) (l3:List RV) (x4:Int) (N:Nat) (w:World) (_:1≤N) (hN:N≤1048576) (h0:DenAV w (fun b=>b< w.heap.size) noBs noMem v0 (arm A0)) (u0:A0.zs N) (h1:Den w (fun b=>b< w.heap.size) v1 (.list (l1.map eng.rd))) (u1:ratsZ l1 N) (h2:Den w (fun b=>b< w.heap.size) v2 (.list (l2.map eng.rd))) (u2:ratsZ l2 N) (h3:Den w (fun b=>b< w.heap.size) v3 (.list (l3.map eng.rd))) (u3:ratsZ l3 N) (u4:-9223372036854775808≤x4∧x4≤9223372036854775807) (hT:Tab w):
  Calls Tryz.prog 3 #[v0,v1,v2,v3,.int .i64 x4] w fun e w'=>e= .returned (.bool true)∧Below w.heap.size w w':=
 Zd5 (I:=fun b=>b< w.heap.size) (Zck A0 l1 l2 l3 x4 (Ze7 u0 (by omega)) ⟨Nat.le_trans u1.1 (by omega),fun x hx=>Nat.le_trans (u1.2 x hx) (by omega)⟩ ⟨Nat.le_trans u2.1 (by omega),fun x hx=>Nat.le_trans (u2.2 x hx) (by omega)⟩ ⟨Nat.le_trans u3.1 (by omega),fun x hx=>Nat.le_trans (u3.2 x hx) (by omega)⟩ u4) rfl hT (fun _ h=>h)
  ((((((ZkG (vs:= []) rfl).cons ((ZfS (v:=int x4) rfl).2 rfl)).cons (show DenAV _ _ _ _ v3 (.val (.one (.d (.list _)))) from h3)).cons (show DenAV _ _ _ _ v2 (.val (.one (.d (.list _)))) from h2)).cons (show DenAV _ _ _ _ v1 (.val (.one (.d (.list _)))) from h1)).cons h0)
end
end Go.Proofs.YtjlhknppkodilaaGreatDoor.eng
