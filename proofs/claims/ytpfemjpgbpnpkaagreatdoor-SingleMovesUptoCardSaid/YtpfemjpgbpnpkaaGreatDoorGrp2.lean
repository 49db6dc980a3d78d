/- Joined by wip/bundle.py: XSingA XForcA XTrackA. -/
import Derived.Test.YtpfemjpgbpnpkaaGreatDoorForeA
import Derived.Test.YtpfemjpgbpnpkaaGreatDoorGrpX
import Derived.Test.YtpfemjpgbpnpkaaGreatDoorOpenA
set_option maxRecDepth 100000
namespace Go.Proofs.YtpfemjpgbpnpkaaGreatDoor.eng
open Go.RowKit num mem seg q held ratA ratB ratC ratD ratE vars ratF trq
section
variable {K : AV → Prop}
theorem turn_z2 {f:RF} {t:Rat} {a:Nat} (hc:qs f.c≤a) (hs:qs f.s≤a) (ht:qs t≤1048576):qs (turnF f t).c≤2*a+8388677∧qs (turnF f t).s≤2*a+8388677:=by
 obtain⟨c1,c2⟩:=Zl7 t
 have:=Zt f.c (cosq false t)
 have:=Zt f.s (sinq t)
 have:=Zt f.s (cosq false t)
 have:=Zt f.c (sinq t)
 have:=ZZ (f.c*cosq false t) (f.s*sinq t)
 have:=ZC (f.s*cosq false t) (f.c*sinq t)
 exact⟨by show qs (f.c*cosq false t - f.s*sinq t)≤_;omega,by show qs (f.s*cosq false t+f.c*sinq t)≤_;omega⟩
theorem qAt_z2 {Q:List RV} (hQ:∀ x,x∈Q→x.z≤1048576) (i:Nat):qs (qAt Q i)≤1048576:=by
 unfold qAt
 cases h:Q[i]? with
 |none=>show qs z0.q≤_;decide+kernel
 |some x=>
  have:=hQ x (List.mem_of_getElem? h)
  have:=x.qs_le
  show qs x.q≤_;omega
theorem ZcA {A:ArmV} {Q:List RV} (hA:armE A=0) (hQ:∀ x,x∈Q→x.z≤1048576):
  ∀ i,i≤3→(qs (endF A Q i).x≤92276478∧qs (endF A Q i).y≤92276478)∧(i< 3→qs (linkF A Q i).x≤92276478∧qs (linkF A Q i).y≤92276478):=by
 obtain⟨b1,b2,b3,b4⟩:=Zqk hA
 have t0:=turn_z2 (t:=qAt Q 0) b3 b4 (qAt_z2 hQ 0)
 have l0:=Zef (f:=linkF A Q 0) (l:=lenAt A 0) (b:=4) b1 b2 t0.1 t0.2 (Zcc hA 0)
 have t1:=turn_z2 (f:=endF A Q 1) (t:=qAt Q 1) t0.1 t0.2 (qAt_z2 hQ 1)
 have l1:=Zef (f:=linkF A Q 1) (l:=lenAt A 1) l0.1 l0.2 t1.1 t1.2 (Zcc hA 1)
 have t2:=turn_z2 (f:=endF A Q 2) (t:=qAt Q 2) t1.1 t1.2 (qAt_z2 hQ 2)
 have l2:=Zef (f:=linkF A Q 2) (l:=lenAt A 2) l1.1 l1.2 t2.1 t2.2 (Zcc hA 2)
 have up:∀ {n a b:Nat},n≤a→a≤b→n≤b:=fun h g=>Nat.le_trans h g
 intro i hi
 rcases (show i=0∨i=1∨i=2∨i=3 by omega) with rfl|rfl|rfl|rfl
 ·exact⟨⟨up b1 (by omega),up b2 (by omega)⟩,fun _=>⟨up b1 (by omega),up b2 (by omega)⟩⟩
 ·exact⟨⟨up l0.1 (by omega),up l0.2 (by omega)⟩,fun _=>⟨up l0.1 (by omega),up l0.2 (by omega)⟩⟩
 ·exact⟨⟨up l1.1 (by omega),up l1.2 (by omega)⟩,fun _=>⟨up l1.1 (by omega),up l1.2 (by omega)⟩⟩
 ·exact⟨⟨up l2.1 (by omega),up l2.2 (by omega)⟩,fun h=>absurd h (by omega)⟩
def colF (A:ArmV) (Q:List RV) (i:Nat):Rat×Rat:=(-((endF A Q A.links.length).y - (linkF A Q i).y),(endF A Q A.links.length).x - (linkF A Q i).x)
def colsF (A:ArmV) (Q:List RV) (n:Nat):List (Rat×Rat):=(List.range n).map (colF A Q)
theorem Zn (A:ArmV) (Q:List RV) (n:Nat):(colsF A Q n).length=n:=by simp [colsF]
theorem Zgu {α:Type} (g:Rat×Rat→α) (A:ArmV) (Q:List RV) (i:Nat):List.map g (colsF A Q (i+1))=List.map g (colsF A Q i)++ [g (colF A Q i)]:=by
 simp [colsF,List.range_succ]
theorem Zhs {A:ArmV} {Q:List RV} {n i:Nat} {p:Rat×Rat} (h:(colsF A Q n)[i]? =some p):p=colF A Q i∧i< n:=by
 have hi:=(List.getElem?_eq_some_iff.1 h).1
 rw [Zn] at hi
 simp [colsF,hi] at h
 exact⟨h.symm,hi⟩
theorem Zlt {A:ArmV} {Q:List RV} (hA:armE A=0) (hQ:∀ x,x∈Q→x.z≤1048576) {i:Nat} (hi:i< A.links.length):qs (colF A Q i).1≤184552957∧qs (colF A Q i).2≤184552957:=by
 have hn:=(ZE hA).1
 obtain⟨⟨a1,a2⟩,_⟩:=ZcA hA hQ A.links.length hn
 obtain⟨_,b⟩:=ZcA hA hQ i (by omega)
 obtain⟨b1,b2⟩:=b (by omega)
 have:=ZZ (endF A Q A.links.length).y (linkF A Q i).y
 have:=ZZ (endF A Q A.links.length).x (linkF A Q i).x
 have:=Zdn ((endF A Q A.links.length).y - (linkF A Q i).y)
 exact⟨by show qs (-((endF A Q A.links.length).y - (linkF A Q i).y))≤_;omega,by show qs ((endF A Q A.links.length).x - (linkF A Q i).x)≤_;omega⟩
def pz (l:List (Rat×Rat)):Prop:=∀ p,p∈l→qs p.1≤184552957∧qs p.2≤184552957
theorem Zc6 {A:ArmV} {Q:List RV} (hA:armE A=0) (hQ:∀ x,x∈Q→x.z≤1048576):pz (colsF A Q A.links.length):=by
 intro p hp
 obtain⟨i,hi⟩:=List.mem_iff_getElem?.1 hp
 obtain⟨rfl,h⟩:=Zhs hi
 exact Zlt hA hQ h
open Classical in
noncomputable def colsV (A:ArmV) (Q:List RV):List (Rat×Rat):=if hasE A (Q.length:Int)=0 then colsF A Q A.links.length else []
theorem Zab {A:ArmV} {Q:List RV} (h:hasE A (Q.length:Int)=0):colsV A Q=colsF A Q A.links.length:=if_pos h
theorem Zhr {A:ArmV} {Q:List RV} (h:¬ hasE A (Q.length:Int)=0):colsV A Q= []:=if_neg h
theorem Zp4 {A:ArmV} {Q:List RV} (hQ:∀ x,x∈Q→x.z≤1048576):pz (colsV A Q):=by
 by_cases h:hasE A (Q.length:Int)=0
 ·rw [Zab h];exact Zc6 (ZI.1 h).1 hQ
 ·rw [Zhr h];intro p hp;simp at hp
theorem ZiI (A:ArmV) (Q:List RV):(colsV A Q).length≤3:=by
 by_cases h:hasE A (Q.length:Int)=0
 ·rw [Zab h,Zn];exact(ZE (ZI.1 h).1).1
 ·rw [Zhr h];exact Nat.zero_le _
open Classical in
noncomputable def rk (p z:Prop):Int:=if p then 2 else if z then 1 else 0
theorem ZcE {p z p' z':Prop} (h1:p↔p') (h2:z↔z'):rk p z=rk p' z':=by rw [propext h1,propext h2]
theorem rk_p {p z:Prop} (h:p):rk p z=2:=if_pos h
theorem Ztt (p z:Prop):(if 1 >rk p z then (1:Int) else rk p z)=rk p True:=by
 unfold rk
 by_cases h:p
 ·rw [if_pos h,if_pos h];rfl
 ·rw [if_neg h,if_neg h]
  by_cases g:z
  ·rw [if_pos g,if_pos trivial];rfl
  ·rw [if_neg g,if_pos trivial];rfl
def crs (l:List (Rat×Rat)) (a b:Nat):Rat:=((l[a]?).getD (0,0)).1*((l[b]?).getD (0,0)).2 - ((l[a]?).getD (0,0)).2*((l[b]?).getD (0,0)).1
theorem Za9 {l:List (Rat×Rat)} {a b:Nat} {p q:Rat×Rat} (h:l[a]? =some p) (g:l[b]? =some q):crs l a b=p.1*q.2 - p.2*q.1:=by simp [crs,h,g]
def nzA (l:List (Rat×Rat)) (i:Nat):Prop:=∃ (a:Nat) (p:Rat×Rat),a< i∧l[a]? =some p∧(p.1≠0∨p.2≠0)
def prA (l:List (Rat×Rat)) (i:Nat):Prop:=∃ a b,b< a∧a< i∧crs l a b≠0
def prB (l:List (Rat×Rat)) (i:Nat):Prop:=∃ a b,a< i∧b< l.length∧crs l a b≠0
noncomputable def rkL (l:List (Rat×Rat)):Int:=rk (prA l l.length) (nzA l l.length)
theorem Zos {l:List (Rat×Rat)} {i:Nat} {p:Rat×Rat} (h:l[i]? =some p) (g:p.1≠0∨p.2≠0):nzA l (i+1)↔True:=iff_true_intro ⟨i,p,Nat.lt_succ_self _,h,g⟩
theorem Zwk {l:List (Rat×Rat)} {i:Nat} {p:Rat×Rat} (h:l[i]? =some p) (g1:p.1=0) (g2:p.2=0):nzA l (i+1)↔nzA l i:=by
 constructor
 ·rintro⟨a,q,h1,h2,h3⟩
  by_cases e:a=i
  ·subst e
   obtain rfl:=Option.some.inj (h.symm.trans h2)
   rcases h3 with h3|h3
   ·exact absurd g1 h3
   ·exact absurd g2 h3
  ·exact⟨a,q,by omega,h2,h3⟩
 ·rintro⟨a,q,h1,h2,h3⟩;exact⟨a,q,by omega,h2,h3⟩
theorem Zg0 {l:List (Rat×Rat)} {i:Nat}:prB l (i+1)↔prB l i∨∃ b,b< l.length∧crs l i b≠0:=by
 constructor
 ·rintro⟨a,b,h1,h2,h3⟩
  by_cases e:a=i
  ·subst e;exact .inr ⟨b,h2,h3⟩
  ·exact .inl ⟨a,b,by omega,h2,h3⟩
 ·rintro(⟨a,b,h1,h2,h3⟩|⟨b,h1,h3⟩)
  ·exact⟨a,b,by omega,h2,h3⟩
  ·exact⟨i,b,Nat.lt_succ_self _,h1,h3⟩
theorem crs_anti (l:List (Rat×Rat)) (a b:Nat):crs l a b=-crs l b a:=by unfold crs;grind
theorem Zuy (l:List (Rat×Rat)):prB l l.length↔prA l l.length:=by
 constructor
 ·rintro⟨a,b,h1,h2,h3⟩
  rcases Nat.lt_trichotomy a b with h|h|h
  ·exact⟨b,a,h,h2,fun e=>h3 (by rw [crs_anti,e];decide+kernel)⟩
  ·subst h;exact absurd (by unfold crs;grind) h3
  ·exact⟨a,b,h,h1,h3⟩
 ·rintro⟨a,b,h1,h2,h3⟩;exact⟨a,b,h2,by omega,h3⟩
theorem Zjv {p:Prop} {f:Nat→Prop} {k:Nat} (h:f k):(p∨∃ b,b< k+1∧f b)↔True:=iff_true_intro (.inr ⟨k,Nat.lt_succ_self _,h⟩)
theorem Zjw {p:Prop} {f:Nat→Prop} {k:Nat} (h:¬ f k):(p∨∃ b,b< k+1∧f b)↔(p∨∃ b,b< k∧f b):=by
 constructor
 ·rintro(g|⟨b,h1,h2⟩)
  ·exact .inl g
  ·by_cases e:b=k
   ·subst e;exact absurd h2 h
   ·exact .inr ⟨b,by omega,h2⟩
 ·rintro(g|⟨b,h1,h2⟩)
  ·exact .inl g
  ·exact .inr ⟨b,by omega,h2⟩
theorem Zjx {p:Prop} {f:Nat→Prop}:p↔(p∨∃ b,b< 0∧f b):=by
 constructor
 ·exact .inl
 ·rintro(g|⟨b,h1,_⟩)
  ·exact g
  ·exact absurd h1 (Nat.not_lt_zero _)
set_option maxHeartbeats 2000000 in
theorem ZqK (A:ArmV) (Q:List RV) (hA:A.ok) (hQ:∀ x,x∈Q→x.z≤1048576):Spec Tryz.prog Tab 155 [.val (.agg [.d (.v (.string A.name)),.d (.v (.bool A.bx.s)),.d (.v (.string A.bx.a)),.d (.v (.string A.bx.d)),.d (.v (.bool A.by'.s)),.d (.v (.string A.by'.a)),.d (.v (.string A.by'.d)),.d (.v (.bool (A.bh))),.d (.v (.bool A.bt.s)),.d (.v (.string A.bt.a)),.d (.v (.string A.bt.d)),.d (.list (List.map lk A.links))]),.val (.one (.d (.list (List.map rd Q))))] (.tup [.one (.d (.list (List.map rvP (colsV A Q)))),.one (.d (.v (.int .i64 (hasE A (Q.length:Int)))))]):=by
 have hA2:=hA
 have hL:(List.map lk A.links).length=A.links.length:=List.length_map ..
 have hLq:(List.map rd Q).length=Q.length:=List.length_map ..
 have hQ1:∀ x,x∈Q→x.z≤2097151:=fun x hx=>Nat.le_trans (hQ x hx) (by decide)
 refine Za Tryz.func155 rfl rfl Tryz.ntmps155 rfl (by kernel_rfl) rfl rfl ?_
 refine Zla (A:=A) (Q:=Q) (by assumption) (by assumption) fun n16 hk_16_1=> ?_
 refine⟨fun e1=> ?_,fun e1=> ?_⟩
 ·have f20:n16≠0:=Zv e1
  refine Eq.trans (b:= .tup [.one (.d (.list ([]))),.one (.d (.v (.int .i64 (n16))))]) ?_ rfl
  rw [Zhr (by rw [← hk_16_1];exact f20),← hk_16_1]
  all_goals rfl
 ·have f20:¬ (n16≠0):=fun hh=>hh (Zw e1)
  have h0:hasE A (Q.length:Int)=0:=by rw [← hk_16_1];exact Classical.not_not.1 f20
  have hA0:=(ZI.1 h0).1
  have hlen0:=(ZI.1 h0).2
  have hlen:Q.length=A.links.length:=by omega
  have hn3:=(ZE hA0).1
  have hLv:(List.map rdF (framesV A Q)).length=(framesV A Q).length:=List.length_map ..
  have hLf:(framesV A Q).length=A.links.length+1:=by rw [ZaZ h0,ZbT]
  have htk:(framesV A Q).take ((framesV A Q).length - 1)=linksF A Q A.links.length:=by rw [hLf,ZaZ h0];exact Zch A Q
  have hLl:(List.map rdF (linksF A Q A.links.length)).length=A.links.length:=by rw [List.length_map,ZO]
  have hLl2:=ZO A Q A.links.length
  refine Zc (l:=(framesV A Q)) (i:=((framesV A Q).length - 1)) (by first|omega|exact Nat.mod_lt _ (by omega)) fun x26 hx26=> ?_
  have hxt:x26=endF A Q A.links.length:=Zej (by rw [← ZaZ h0,show A.links.length=(framesV A Q).length - 1 from by omega];exact hx26)
  have hzt:=(ZcA hA0 hQ A.links.length hn3).1
  rw [← hxt] at hzt
  refine k_ix ((framesV A Q).length - 1) [D.v (.bool (cn x26.x).s),D.v (.string (cn x26.x).a),D.v (.string (cn x26.x).d),D.v (.bool (cn x26.y).s),D.v (.string (cn x26.y).a),D.v (.string (cn x26.y).d),D.v (.bool (tofH x26.c)),D.v (.bool (cn (tofQ x26.c x26.s)).s),D.v (.string (cn (tofQ x26.c x26.s)).a),D.v (.string (cn (tofQ x26.c x26.s)).d)] (by first|rfl|omega|(rw [wrap64 _ (by omega) (by omega)];omega)) (Zb hx26) rfl ?_
  refine Zo6 ((framesV A Q).length - 1) (List.map rdF (linksF A Q A.links.length)) (by first|omega|(simp;omega)|simp) (by first|rfl|omega|(rw [wrap64 _ (by omega) (by omega)];omega)) (Zbk fun _=>rfl) ((by rw [← htk];exact List.map_take.symm)) ?_
  refine⟨Nat,fun i=> [(8,.val (.one (.ptr 8 0))),(9,.val (.one (.row 51 0))),(33,.val (.one (.d (.list (List.map rdF (linksF A Q A.links.length)))))),(34,int ((List.map rdF (linksF A Q A.links.length)).length:Int)),(35,int (i:Int))],
   fun i=> [(8,.var 25 [.d (.v (.bool (cn x26.x).s)),.d (.v (.string (cn x26.x).a)),.d (.v (.string (cn x26.x).d)),.d (.v (.bool (cn x26.y).s)),.d (.v (.string (cn x26.y).a)),.d (.v (.string (cn x26.y).d))]),(51,.row 25 6 0 (List.map rvP (colsF A Q i)) true)],fun i=>i≤A.links.length,fun i=>A.links.length - i,0,?_,Nat.zero_le _,fun i hs=> ?_⟩
  ·constructor<;>(repeat' (first|exact rfl|exact True.intro|exact⟨_,_,rfl⟩|exact(by decide)|apply And.intro))
   all_goals first|exact congrArg (fun n:Int=>D.v (.int .i64 n)) (by omega)|exact congrArg (fun n:Int=>D.v (.int .i64 n)) (by rw [wrap64 _ (by omega) (by omega)];omega)|(simp;done)
  have hT:(List.map rvP (colsF A Q i)).length≤3:=by rw [List.length_map,Zn];omega
  refine⟨fun e2=> ?_,fun e2=> ?_⟩
  ·have f36:(i:Int)< ((List.map rdF (linksF A Q A.links.length)).length:Int):=of_decide_eq_true e2
   refine Zc (l:=(linksF A Q A.links.length)) (i:=i) (by first|omega|exact Nat.mod_lt _ (by omega)) fun x37 hx37=> ?_
   have hxl:x37=linkF A Q i:=(Zdu hx37).1
   have hzl:=(ZcA hA0 hQ i (by omega)).2 (by omega)
   rw [← hxl] at hzl
   refine k_ix i [D.v (.bool (cn x37.x).s),D.v (.string (cn x37.x).a),D.v (.string (cn x37.x).d),D.v (.bool (cn x37.y).s),D.v (.string (cn x37.y).a),D.v (.string (cn x37.y).d),D.v (.bool (tofH x37.c)),D.v (.bool (cn (tofQ x37.c x37.s)).s),D.v (.string (cn (tofQ x37.c x37.s)).a),D.v (.string (cn (tofQ x37.c x37.s)).d)] (by first|rfl|omega|(rw [wrap64 _ (by omega) (by omega)];omega)) (Zb hx37) rfl ?_
   refine Zo5 (x:=cn x26.x) (y:=cn x26.y) (z:=cn x37.x) (t:=cn x37.y) (by simp only [cn_z];omega) (by simp only [cn_z];omega) (by simp only [cn_z];omega) (by simp only [cn_z];omega) (fun p42 q42 hk_42_2 hk_42_3 hk_42_4 hk_42_5=> ?_)
   try simp only [cn_q] at hk_42_2
   try simp only [cn_q] at hk_42_3
   simp only [cn_z] at hk_42_4
   simp only [cn_z] at hk_42_5
   refine ZuU (x:=cn q42) (by simp only [cn_z];omega) fun q46 h46 z46=> ?_
   simp only [cn_z] at z46
   simp only [cn_q] at h46
   refine⟨⟨row1 rfl,(by show ((List.map rvP (colsF A Q i)).length+1)*80≤_;omega),(by show ((List.map rvP (colsF A Q i)).length+1)≤_;omega)⟩,?_⟩
   refine⟨by kernel_rfl,?_⟩
   have ec:(q46,p42)=colF A Q i:=by rw [h46,hk_42_2,hk_42_3,hxt,hxl];rfl
   have ec1:q46=(colF A Q i).1:=by rw [← ec]
   have ec2:p42=(colF A Q i).2:=by rw [← ec]
   clear ec h46 hk_42_2
   subst ec1 ec2
   refine⟨i+1,by omega,by simp only;omega,?_⟩
   constructor<;>(repeat' (first|exact rfl|exact True.intro|apply And.intro))
   all_goals first
    |(rw [Zgu];rfl)
    |exact congrArg (fun n:Int=>D.v (.int .i64 n)) (by rw [wrap64 _ (by omega) (by omega)];omega)
    |exact congrArg (fun n:Int=>D.v (.int .i64 n)) (by omega)
  ·have f36:¬ ((i:Int)< ((List.map rdF (linksF A Q A.links.length)).length:Int)):=of_decide_eq_false e2
   refine Eq.trans (b:= .tup [.one (.d (.list (List.map rvP (colsF A Q i)))),.one (.d (.v (.int .i64 (0))))]) ?_ rfl
   obtain rfl:i=A.links.length:=by omega
   rw [Zab h0,h0]
   all_goals rfl
theorem Zps {A:ArmV} {Q:List RV} (hA:A.ok) (hQ:∀ x,x∈Q→x.z≤1048576) (k:∀ n,n=hasE A (Q.length:Int)→K (.tup [.one (.d (.list (List.map rvP (colsV A Q)))),.one (.d (.v (.int .i64 n)))])):Ask 155 [.val (.agg [.d (.v (.string A.name)),.d (.v (.bool A.bx.s)),.d (.v (.string A.bx.a)),.d (.v (.string A.bx.d)),.d (.v (.bool A.by'.s)),.d (.v (.string A.by'.a)),.d (.v (.string A.by'.d)),.d (.v (.bool (A.bh))),.d (.v (.bool A.bt.s)),.d (.v (.string A.bt.a)),.d (.v (.string A.bt.d)),.d (.list (List.map lk A.links))]),.val (.one (.d (.list (List.map rd Q))))] K:=use (ZqK A Q hA hQ) rfl (k _ rfl)
set_option maxHeartbeats 2000000 in
theorem ZmZ (A:ArmV) (Q:List RV) (hA:A.ok) (hA0:armE A=0) (hlen:Q.length=A.links.length) (hQ:∀ x,x∈Q→x.z≤1048576):Spec Tryz.prog Tab 62 [.val (.agg [.d (.v (.string A.name)),.d (.v (.bool A.bx.s)),.d (.v (.string A.bx.a)),.d (.v (.string A.bx.d)),.d (.v (.bool A.by'.s)),.d (.v (.string A.by'.a)),.d (.v (.string A.by'.d)),.d (.v (.bool (A.bh))),.d (.v (.bool A.bt.s)),.d (.v (.string A.bt.a)),.d (.v (.string A.bt.d)),.d (.list (List.map lk A.links))]),.val (.one (.d (.list (List.map rd Q))))] (.val (.one (.d (.list (List.map rqP (colsF A Q A.links.length)))))):=by
 have hA2:=hA
 have hL:(List.map lk A.links).length=A.links.length:=List.length_map ..
 have hLq:(List.map rd Q).length=Q.length:=List.length_map ..
 have hQ1:∀ x,x∈Q→x.z≤2097151:=fun x hx=>Nat.le_trans (hQ x hx) (by decide)
 have hn3:=(ZE hA0).1
 have hLv:(List.map rqF (framesF A Q)).length=(framesF A Q).length:=List.length_map ..
 have hLf:=ZbT A Q
 have htk:(framesF A Q).take ((framesF A Q).length - 1)=linksF A Q A.links.length:=by rw [hLf];exact Zch A Q
 have hLl:(List.map rqF (linksF A Q A.links.length)).length=A.links.length:=by rw [List.length_map,ZO]
 have hLl2:=ZO A Q A.links.length
 refine Za Tryz.func62 rfl rfl Tryz.ntmps62 rfl (by kernel_rfl) rfl rfl ?_
 refine Zit (A:=A) (Q:=Q) (by assumption) hA0 hlen (by assumption) ?_
 refine Zc (l:=(framesF A Q)) (i:=((framesF A Q).length - 1)) (by first|omega|exact Nat.mod_lt _ (by omega)) fun x17 hx17=> ?_
 have hxt:x17=endF A Q A.links.length:=Zej (by rw [show A.links.length=(framesF A Q).length - 1 from by omega];exact hx17)
 have hzt:=(ZcA hA0 hQ A.links.length hn3).1
 rw [← hxt] at hzt
 refine k_ix ((framesF A Q).length - 1) [D.v (.bool (decide (x17.x.num< 0))),D.list (W (w32 x17.x.num.natAbs)),D.list (W (w32 x17.x.den)),D.v (.bool (decide (x17.y.num< 0))),D.list (W (w32 x17.y.num.natAbs)),D.list (W (w32 x17.y.den)),D.v (.bool (decide (x17.c.num< 0))),D.list (W (w32 x17.c.num.natAbs)),D.list (W (w32 x17.c.den)),D.v (.bool (decide (x17.s.num< 0))),D.list (W (w32 x17.s.num.natAbs)),D.list (W (w32 x17.s.den))] (by first|rfl|omega|(rw [wrap64 _ (by omega) (by omega)];omega)) (Zb hx17) rfl ?_
 refine Zo6 ((framesF A Q).length - 1) (List.map rqF (linksF A Q A.links.length)) (by first|omega|(simp;omega)|simp) (by first|rfl|omega|(rw [wrap64 _ (by omega) (by omega)];omega)) (Zbk fun _=>rfl) ((by rw [← htk];exact List.map_take.symm)) ?_
 refine⟨Nat,fun i=> [(6,.val (.one (.ptr 6 0))),(7,.val (.one (.row 42 0))),(23,.val (.one (.d (.list (List.map rqF (linksF A Q A.links.length)))))),(24,int ((List.map rqF (linksF A Q A.links.length)).length:Int)),(25,int (i:Int))],
  fun i=> [(6,.var 196 [.d (.v (.bool (decide (x17.x.num< 0)))),.d (.list (W (w32 x17.x.num.natAbs))),.d (.list (W (w32 x17.x.den))),.d (.v (.bool (decide (x17.y.num< 0)))),.d (.list (W (w32 x17.y.num.natAbs))),.d (.list (W (w32 x17.y.den))),.d (.v (.bool (decide (x17.c.num< 0)))),.d (.list (W (w32 x17.c.num.natAbs))),.d (.list (W (w32 x17.c.den))),.d (.v (.bool (decide (x17.s.num< 0)))),.d (.list (W (w32 x17.s.num.natAbs))),.d (.list (W (w32 x17.s.den)))]),(42,.row 104 6 0 (List.map rqP (colsF A Q i)) true)],fun i=>i≤A.links.length,fun i=>A.links.length - i,0,?_,Nat.zero_le _,fun i hs=> ?_⟩
 ·constructor<;>(repeat' (first|exact rfl|exact True.intro|exact⟨_,_,rfl⟩|exact(by decide)|apply And.intro))
  all_goals first|exact congrArg (fun n:Int=>D.v (.int .i64 n)) (by omega)|exact congrArg (fun n:Int=>D.v (.int .i64 n)) (by rw [wrap64 _ (by omega) (by omega)];omega)|(simp;done)
 have hT:(List.map rqP (colsF A Q i)).length≤3:=by rw [List.length_map,Zn];omega
 refine⟨fun e1=> ?_,fun e1=> ?_⟩
 ·have f26:(i:Int)< ((List.map rqF (linksF A Q A.links.length)).length:Int):=of_decide_eq_true e1
  refine Zc (l:=(linksF A Q A.links.length)) (i:=i) (by first|omega|exact Nat.mod_lt _ (by omega)) fun x27 hx27=> ?_
  have hxl:x27=linkF A Q i:=(Zdu hx27).1
  have hzl:=(ZcA hA0 hQ i (by omega)).2 (by omega)
  rw [← hxl] at hzl
  refine k_ix i [D.v (.bool (decide (x27.x.num< 0))),D.list (W (w32 x27.x.num.natAbs)),D.list (W (w32 x27.x.den)),D.v (.bool (decide (x27.y.num< 0))),D.list (W (w32 x27.y.num.natAbs)),D.list (W (w32 x27.y.den)),D.v (.bool (decide (x27.c.num< 0))),D.list (W (w32 x27.c.num.natAbs)),D.list (W (w32 x27.c.den)),D.v (.bool (decide (x27.s.num< 0))),D.list (W (w32 x27.s.num.natAbs)),D.list (W (w32 x27.s.den))] (by first|rfl|omega|(rw [wrap64 _ (by omega) (by omega)];omega)) (Zb hx27) rfl ?_
  refine ZaJ (p:=x27.y) (q:=x17.y) (by omega) (by omega) fun q34 h34 z34=> ?_
  refine ZaJ (p:=x17.x) (q:=x27.x) (by omega) (by omega) fun q39 h39 z39=> ?_
  refine⟨⟨row1 rfl,(by show ((List.map rqP (colsF A Q i)).length+1)*112≤_;omega),(by show ((List.map rqP (colsF A Q i)).length+1)≤_;omega)⟩,?_⟩
  refine⟨by kernel_rfl,?_⟩
  have ec1:q34=(colF A Q i).1:=by rw [h34,hxt,hxl];show _=-((endF A Q A.links.length).y - (linkF A Q i).y);grind
  have ec2:q39=(colF A Q i).2:=by rw [h39,hxt,hxl];rfl
  clear h34 h39
  subst ec1 ec2
  refine⟨i+1,by omega,by simp only;omega,?_⟩
  constructor<;>(repeat' (first|exact rfl|exact True.intro|apply And.intro))
  all_goals first
   |(rw [Zgu];rfl)
   |exact congrArg (fun n:Int=>D.v (.int .i64 n)) (by rw [wrap64 _ (by omega) (by omega)];omega)
   |exact congrArg (fun n:Int=>D.v (.int .i64 n)) (by omega)
 ·have f26:¬ ((i:Int)< ((List.map rqF (linksF A Q A.links.length)).length:Int)):=of_decide_eq_false e1
  refine Eq.trans (b:= .val (.one (.d (.list (List.map rqP (colsF A Q i)))))) ?_ rfl
  obtain rfl:i=A.links.length:=by omega
  rfl
theorem ZjM {A:ArmV} {Q:List RV} (hA:A.ok) (hA0:armE A=0) (hlen:Q.length=A.links.length) (hQ:∀ x,x∈Q→x.z≤1048576) (k:K (.val (.one (.d (.list (List.map rqP (colsF A Q A.links.length))))))):Ask 62 [.val (.agg [.d (.v (.string A.name)),.d (.v (.bool A.bx.s)),.d (.v (.string A.bx.a)),.d (.v (.string A.bx.d)),.d (.v (.bool A.by'.s)),.d (.v (.string A.by'.a)),.d (.v (.string A.by'.d)),.d (.v (.bool (A.bh))),.d (.v (.bool A.bt.s)),.d (.v (.string A.bt.a)),.d (.v (.string A.bt.d)),.d (.list (List.map lk A.links))]),.val (.one (.d (.list (List.map rd Q))))] K:=use (ZmZ A Q hA hA0 hlen hQ) rfl k
set_option maxHeartbeats 2000000 in
theorem ZmW (l:List (Rat×Rat)) (hcz:pz l) (hn:l.length≤1073741824):Spec Tryz.prog Tab 63 [.val (.one (.d (.list (List.map rqP l))))] (int (rkL l)):=by
 have hL:(List.map rqP l).length=l.length:=List.length_map ..
 refine Za Tryz.func63 rfl rfl Tryz.ntmps63 rfl (by kernel_rfl) rfl rfl ?_
 have e0:(0:Int)=rk (prB l 0) (nzA l 0):=by
  unfold rk
  rw [if_neg (by rintro⟨a,b,h1,h2,_⟩;omega),if_neg (by rintro⟨a,p,h1,_⟩;omega)]
 refine⟨Nat,fun i=> [(0,.val (.one (.d (.list (List.map rqP l))))),(3,int (rk (prB l i) (nzA l i))),(8,.val (.one (.d (.list (List.map rqP l))))),(9,int ((List.map rqP l).length:Int)),(10,int (i:Int))],
  fun i=> [],fun i=>i≤l.length,fun i=>l.length - i,0,?_,Nat.zero_le _,fun i hs=> ?_⟩
 ·constructor<;>(repeat' (first|exact rfl|exact True.intro|exact⟨_,_,rfl⟩|exact(by decide)|apply And.intro))
  all_goals first
   |exact congrArg (fun n:Int=>D.v (.int .i64 n)) e0
   |exact congrArg (fun n:Int=>D.v (.int .i64 n)) (by omega)
   |(simp;done)
 refine⟨fun e1=> ?_,fun e1=> ?_⟩
 ·have f11:(i:Int)< ((List.map rqP l).length:Int):=of_decide_eq_true e1
  refine Zc (l:=l) (i:=i) (by first|omega|exact Nat.mod_lt _ (by omega)) fun x12 hx12=> ?_
  have hwx12:=hcz x12 (List.mem_of_getElem? hx12)
  refine k_ix i [D.v (.bool (decide (x12.1.num< 0))),D.list (W (w32 x12.1.num.natAbs)),D.list (W (w32 x12.1.den)),D.v (.bool (decide (x12.2.num< 0))),D.list (W (w32 x12.2.num.natAbs)),D.list (W (w32 x12.2.den))] (by first|rfl|omega|(rw [wrap64 _ (by omega) (by omega)];omega)) (Zb hx12) rfl ?_
  refine Zaf (q:=x12.1) fun n16 h16=> ?_
  refine fork (fun e2=> ?_) (fun e2=> ?_)
  ·have f18:¬ x12.1=0:=fun hh=>Zv e2 ((ZN h16).2 hh)
   refine⟨fun _=> ?_,fun e=>absurd e (by decide)⟩
   have e1:(if 1 >(rk (prB l i) (nzA l i)) then 1 else (rk (prB l i) (nzA l i)))=rk (prB l i∨∃ b,b< 0∧crs l i b≠0) (nzA l (i+1)):=(Ztt _ _).trans (ZcE Zjx (Zos hx12 (.inl f18)).symm)
   refine⟨Nat,fun k=> [(0,.val (.one (.d (.list (List.map rqP l))))),(3,int (rk (prB l i∨∃ b,b< k∧crs l i b≠0) (nzA l (i+1)))),(5,.val (.one (.ptr 5 0))),(8,.val (.one (.d (.list (List.map rqP l))))),(9,int ((List.map rqP l).length:Int)),(10,int (i:Int)),(19,.tup []),(20,.tup []),(21,.tup []),(22,.tup []),(26,.val (.one (.d (.list (List.map rqP l))))),(27,int ((List.map rqP l).length:Int)),(28,int (k:Int))],
    fun k=> [(5,.var 104 [.d (.v (.bool (decide (x12.1.num< 0)))),.d (.list (W (w32 x12.1.num.natAbs))),.d (.list (W (w32 x12.1.den))),.d (.v (.bool (decide (x12.2.num< 0)))),.d (.list (W (w32 x12.2.num.natAbs))),.d (.list (W (w32 x12.2.den)))])],fun k=>k≤l.length,fun k=>l.length - k,0,?_,Nat.zero_le _,fun k hs=> ?_⟩
   ·constructor<;>(repeat' (first|exact rfl|exact True.intro|exact⟨_,_,rfl⟩|exact(by decide)|apply And.intro))
    all_goals first
     |exact congrArg (fun n:Int=>D.v (.int .i64 n)) e1
     |exact congrArg (fun n:Int=>D.v (.int .i64 n)) e1.symm
     |exact congrArg (fun n:Int=>D.v (.int .i64 n)) (by omega)
     |(simp;done)
   refine⟨fun e3=> ?_,fun e3=> ?_⟩
   ·have f29:(k:Int)< ((List.map rqP l).length:Int):=of_decide_eq_true e3
    refine Zc (l:=l) (i:=k) (by first|omega|exact Nat.mod_lt _ (by omega)) fun x30 hx30=> ?_
    have hwx30:=hcz x30 (List.mem_of_getElem? hx30)
    refine k_ix k [D.v (.bool (decide (x30.1.num< 0))),D.list (W (w32 x30.1.num.natAbs)),D.list (W (w32 x30.1.den)),D.v (.bool (decide (x30.2.num< 0))),D.list (W (w32 x30.2.num.natAbs)),D.list (W (w32 x30.2.den))] (by first|rfl|omega|(rw [wrap64 _ (by omega) (by omega)];omega)) (Zb hx30) rfl ?_
    refine ZeE (p:=x12.1) (q:=x12.2) (r:=x30.1) (u:=x30.2) (by omega) (by omega) (by omega) (by omega) (fun ya34 hk_34_1 hk_34_2=> ?_)
    refine Zaf (q:=ya34) fun n35 h35=> ?_
    refine⟨fun e4=> ?_,fun e4=> ?_⟩
    ·have f36:¬ ya34=0:=fun hh=>Zv e4 ((ZN h35).2 hh)
     have e3:(2:Int)=rk (prB l i∨∃ b,b< k+1∧crs l i b≠0) (nzA l (i+1)):=(rk_p ((Zjv (by rw [Za9 hx12 hx30,← hk_34_1];exact f36)).2 trivial)).symm
     refine⟨k+1,by omega,by simp only;omega,?_⟩
     constructor<;>(repeat' (first|exact rfl|exact True.intro|apply And.intro))
     all_goals first
      |exact congrArg (fun n:Int=>D.v (.int .i64 n)) e3
      |exact congrArg (fun n:Int=>D.v (.int .i64 n)) e3.symm
      |exact congrArg (fun n:Int=>D.v (.int .i64 n)) (by rw [wrap64 _ (by omega) (by omega)];omega)
      |exact congrArg (fun n:Int=>D.v (.int .i64 n)) (by omega)
    ·have f36:¬ (¬ ya34=0):=fun hh=>hh ((ZN h35).1 (Zw e4))
     have e3:rk (prB l i∨∃ b,b< k∧crs l i b≠0) (nzA l (i+1))=rk (prB l i∨∃ b,b< k+1∧crs l i b≠0) (nzA l (i+1)):=ZcE (Zjw (by rw [Za9 hx12 hx30,← hk_34_1];exact f36)).symm Iff.rfl
     refine⟨k+1,by omega,by simp only;omega,?_⟩
     constructor<;>(repeat' (first|exact rfl|exact True.intro|apply And.intro))
     all_goals first
      |exact congrArg (fun n:Int=>D.v (.int .i64 n)) e3
      |exact congrArg (fun n:Int=>D.v (.int .i64 n)) e3.symm
      |exact congrArg (fun n:Int=>D.v (.int .i64 n)) (by rw [wrap64 _ (by omega) (by omega)];omega)
      |exact congrArg (fun n:Int=>D.v (.int .i64 n)) (by omega)
   ·have f29:¬ ((k:Int)< ((List.map rqP l).length:Int)):=of_decide_eq_false e3
    have e2:rk (prB l i∨∃ b,b< k∧crs l i b≠0) (nzA l (i+1))=rk (prB l (i+1)) (nzA l (i+1)):=ZcE (by rw [Zg0,show k=l.length from by omega]) Iff.rfl
    refine⟨i+1,by omega,by simp only;omega,?_⟩
    constructor<;>(repeat' (first|exact rfl|exact True.intro|apply And.intro))
    all_goals first
     |exact congrArg (fun n:Int=>D.v (.int .i64 n)) e2
     |exact congrArg (fun n:Int=>D.v (.int .i64 n)) e2.symm
     |exact congrArg (fun n:Int=>D.v (.int .i64 n)) (by rw [wrap64 _ (by omega) (by omega)];omega)
     |exact congrArg (fun n:Int=>D.v (.int .i64 n)) (by omega)
  ·have f18:¬ (¬ x12.1=0):=fun hh=>hh ((ZN h16).1 (Zw e2))
   refine Zaf (q:=x12.2) fun n21 h21=> ?_
   refine⟨fun e5=> ?_,fun e5=> ?_⟩
   ·have f23:¬ x12.2=0:=fun hh=>Zv e5 ((ZN h21).2 hh)
    have e1:(if 1 >(rk (prB l i) (nzA l i)) then 1 else (rk (prB l i) (nzA l i)))=rk (prB l i∨∃ b,b< 0∧crs l i b≠0) (nzA l (i+1)):=(Ztt _ _).trans (ZcE Zjx (Zos hx12 (.inr f23)).symm)
    refine⟨Nat,fun k=> [(0,.val (.one (.d (.list (List.map rqP l))))),(3,int (rk (prB l i∨∃ b,b< k∧crs l i b≠0) (nzA l (i+1)))),(5,.val (.one (.ptr 5 0))),(8,.val (.one (.d (.list (List.map rqP l))))),(9,int ((List.map rqP l).length:Int)),(10,int (i:Int)),(19,.val (.one (.ptr 5 3))),(20,q3 x12.2),(21,int n21),(22,bool (n21 !=0)),(26,.val (.one (.d (.list (List.map rqP l))))),(27,int ((List.map rqP l).length:Int)),(28,int (k:Int))],
     fun k=> [(5,.var 104 [.d (.v (.bool (decide (x12.1.num< 0)))),.d (.list (W (w32 x12.1.num.natAbs))),.d (.list (W (w32 x12.1.den))),.d (.v (.bool (decide (x12.2.num< 0)))),.d (.list (W (w32 x12.2.num.natAbs))),.d (.list (W (w32 x12.2.den)))])],fun k=>k≤l.length,fun k=>l.length - k,0,?_,Nat.zero_le _,fun k hs=> ?_⟩
    ·constructor<;>(repeat' (first|exact rfl|exact True.intro|exact⟨_,_,rfl⟩|exact(by decide)|apply And.intro))
     all_goals first
      |exact congrArg (fun n:Int=>D.v (.int .i64 n)) e1
      |exact congrArg (fun n:Int=>D.v (.int .i64 n)) e1.symm
      |exact congrArg (fun n:Int=>D.v (.int .i64 n)) (by omega)
      |(simp;done)
    refine⟨fun e6=> ?_,fun e6=> ?_⟩
    ·have f29:(k:Int)< ((List.map rqP l).length:Int):=of_decide_eq_true e6
     refine Zc (l:=l) (i:=k) (by first|omega|exact Nat.mod_lt _ (by omega)) fun x30 hx30=> ?_
     have hwx30:=hcz x30 (List.mem_of_getElem? hx30)
     refine k_ix k [D.v (.bool (decide (x30.1.num< 0))),D.list (W (w32 x30.1.num.natAbs)),D.list (W (w32 x30.1.den)),D.v (.bool (decide (x30.2.num< 0))),D.list (W (w32 x30.2.num.natAbs)),D.list (W (w32 x30.2.den))] (by first|rfl|omega|(rw [wrap64 _ (by omega) (by omega)];omega)) (Zb hx30) rfl ?_
     refine ZeE (p:=x12.1) (q:=x12.2) (r:=x30.1) (u:=x30.2) (by omega) (by omega) (by omega) (by omega) (fun ya34 hk_34_1 hk_34_2=> ?_)
     refine Zaf (q:=ya34) fun n35 h35=> ?_
     refine⟨fun e7=> ?_,fun e7=> ?_⟩
     ·have f36:¬ ya34=0:=fun hh=>Zv e7 ((ZN h35).2 hh)
      have e3:(2:Int)=rk (prB l i∨∃ b,b< k+1∧crs l i b≠0) (nzA l (i+1)):=(rk_p ((Zjv (by rw [Za9 hx12 hx30,← hk_34_1];exact f36)).2 trivial)).symm
      refine⟨k+1,by omega,by simp only;omega,?_⟩
      constructor<;>(repeat' (first|exact rfl|exact True.intro|apply And.intro))
      all_goals first
       |exact congrArg (fun n:Int=>D.v (.int .i64 n)) e3
       |exact congrArg (fun n:Int=>D.v (.int .i64 n)) e3.symm
       |exact congrArg (fun n:Int=>D.v (.int .i64 n)) (by rw [wrap64 _ (by omega) (by omega)];omega)
       |exact congrArg (fun n:Int=>D.v (.int .i64 n)) (by omega)
     ·have f36:¬ (¬ ya34=0):=fun hh=>hh ((ZN h35).1 (Zw e7))
      have e3:rk (prB l i∨∃ b,b< k∧crs l i b≠0) (nzA l (i+1))=rk (prB l i∨∃ b,b< k+1∧crs l i b≠0) (nzA l (i+1)):=ZcE (Zjw (by rw [Za9 hx12 hx30,← hk_34_1];exact f36)).symm Iff.rfl
      refine⟨k+1,by omega,by simp only;omega,?_⟩
      constructor<;>(repeat' (first|exact rfl|exact True.intro|apply And.intro))
      all_goals first
       |exact congrArg (fun n:Int=>D.v (.int .i64 n)) e3
       |exact congrArg (fun n:Int=>D.v (.int .i64 n)) e3.symm
       |exact congrArg (fun n:Int=>D.v (.int .i64 n)) (by rw [wrap64 _ (by omega) (by omega)];omega)
       |exact congrArg (fun n:Int=>D.v (.int .i64 n)) (by omega)
    ·have f29:¬ ((k:Int)< ((List.map rqP l).length:Int)):=of_decide_eq_false e6
     have e2:rk (prB l i∨∃ b,b< k∧crs l i b≠0) (nzA l (i+1))=rk (prB l (i+1)) (nzA l (i+1)):=ZcE (by rw [Zg0,show k=l.length from by omega]) Iff.rfl
     refine⟨i+1,by omega,by simp only;omega,?_⟩
     constructor<;>(repeat' (first|exact rfl|exact True.intro|apply And.intro))
     all_goals first
      |exact congrArg (fun n:Int=>D.v (.int .i64 n)) e2
      |exact congrArg (fun n:Int=>D.v (.int .i64 n)) e2.symm
      |exact congrArg (fun n:Int=>D.v (.int .i64 n)) (by rw [wrap64 _ (by omega) (by omega)];omega)
      |exact congrArg (fun n:Int=>D.v (.int .i64 n)) (by omega)
   ·have f23:¬ (¬ x12.2=0):=fun hh=>hh ((ZN h21).1 (Zw e5))
    have e1:((rk (prB l i) (nzA l i)))=rk (prB l i∨∃ b,b< 0∧crs l i b≠0) (nzA l (i+1)):=ZcE Zjx (Zwk hx12 (Classical.not_not.1 f18) (Classical.not_not.1 f23)).symm
    refine⟨Nat,fun k=> [(0,.val (.one (.d (.list (List.map rqP l))))),(3,int (rk (prB l i∨∃ b,b< k∧crs l i b≠0) (nzA l (i+1)))),(5,.val (.one (.ptr 5 0))),(8,.val (.one (.d (.list (List.map rqP l))))),(9,int ((List.map rqP l).length:Int)),(10,int (i:Int)),(19,.val (.one (.ptr 5 3))),(20,q3 x12.2),(21,int n21),(22,bool (n21 !=0)),(26,.val (.one (.d (.list (List.map rqP l))))),(27,int ((List.map rqP l).length:Int)),(28,int (k:Int))],
     fun k=> [(5,.var 104 [.d (.v (.bool (decide (x12.1.num< 0)))),.d (.list (W (w32 x12.1.num.natAbs))),.d (.list (W (w32 x12.1.den))),.d (.v (.bool (decide (x12.2.num< 0)))),.d (.list (W (w32 x12.2.num.natAbs))),.d (.list (W (w32 x12.2.den)))])],fun k=>k≤l.length,fun k=>l.length - k,0,?_,Nat.zero_le _,fun k hs=> ?_⟩
    ·constructor<;>(repeat' (first|exact rfl|exact True.intro|exact⟨_,_,rfl⟩|exact(by decide)|apply And.intro))
     all_goals first
      |exact congrArg (fun n:Int=>D.v (.int .i64 n)) e1
      |exact congrArg (fun n:Int=>D.v (.int .i64 n)) e1.symm
      |exact congrArg (fun n:Int=>D.v (.int .i64 n)) (by omega)
      |(simp;done)
    refine⟨fun e8=> ?_,fun e8=> ?_⟩
    ·have f29:(k:Int)< ((List.map rqP l).length:Int):=of_decide_eq_true e8
     refine Zc (l:=l) (i:=k) (by first|omega|exact Nat.mod_lt _ (by omega)) fun x30 hx30=> ?_
     have hwx30:=hcz x30 (List.mem_of_getElem? hx30)
     refine k_ix k [D.v (.bool (decide (x30.1.num< 0))),D.list (W (w32 x30.1.num.natAbs)),D.list (W (w32 x30.1.den)),D.v (.bool (decide (x30.2.num< 0))),D.list (W (w32 x30.2.num.natAbs)),D.list (W (w32 x30.2.den))] (by first|rfl|omega|(rw [wrap64 _ (by omega) (by omega)];omega)) (Zb hx30) rfl ?_
     refine ZeE (p:=x12.1) (q:=x12.2) (r:=x30.1) (u:=x30.2) (by omega) (by omega) (by omega) (by omega) (fun ya34 hk_34_1 hk_34_2=> ?_)
     refine Zaf (q:=ya34) fun n35 h35=> ?_
     refine⟨fun e9=> ?_,fun e9=> ?_⟩
     ·have f36:¬ ya34=0:=fun hh=>Zv e9 ((ZN h35).2 hh)
      have e3:(2:Int)=rk (prB l i∨∃ b,b< k+1∧crs l i b≠0) (nzA l (i+1)):=(rk_p ((Zjv (by rw [Za9 hx12 hx30,← hk_34_1];exact f36)).2 trivial)).symm
      refine⟨k+1,by omega,by simp only;omega,?_⟩
      constructor<;>(repeat' (first|exact rfl|exact True.intro|apply And.intro))
      all_goals first
       |exact congrArg (fun n:Int=>D.v (.int .i64 n)) e3
       |exact congrArg (fun n:Int=>D.v (.int .i64 n)) e3.symm
       |exact congrArg (fun n:Int=>D.v (.int .i64 n)) (by rw [wrap64 _ (by omega) (by omega)];omega)
       |exact congrArg (fun n:Int=>D.v (.int .i64 n)) (by omega)
     ·have f36:¬ (¬ ya34=0):=fun hh=>hh ((ZN h35).1 (Zw e9))
      have e3:rk (prB l i∨∃ b,b< k∧crs l i b≠0) (nzA l (i+1))=rk (prB l i∨∃ b,b< k+1∧crs l i b≠0) (nzA l (i+1)):=ZcE (Zjw (by rw [Za9 hx12 hx30,← hk_34_1];exact f36)).symm Iff.rfl
      refine⟨k+1,by omega,by simp only;omega,?_⟩
      constructor<;>(repeat' (first|exact rfl|exact True.intro|apply And.intro))
      all_goals first
       |exact congrArg (fun n:Int=>D.v (.int .i64 n)) e3
       |exact congrArg (fun n:Int=>D.v (.int .i64 n)) e3.symm
       |exact congrArg (fun n:Int=>D.v (.int .i64 n)) (by rw [wrap64 _ (by omega) (by omega)];omega)
       |exact congrArg (fun n:Int=>D.v (.int .i64 n)) (by omega)
    ·have f29:¬ ((k:Int)< ((List.map rqP l).length:Int)):=of_decide_eq_false e8
     have e2:rk (prB l i∨∃ b,b< k∧crs l i b≠0) (nzA l (i+1))=rk (prB l (i+1)) (nzA l (i+1)):=ZcE (by rw [Zg0,show k=l.length from by omega]) Iff.rfl
     refine⟨i+1,by omega,by simp only;omega,?_⟩
     constructor<;>(repeat' (first|exact rfl|exact True.intro|apply And.intro))
     all_goals first
      |exact congrArg (fun n:Int=>D.v (.int .i64 n)) e2
      |exact congrArg (fun n:Int=>D.v (.int .i64 n)) e2.symm
      |exact congrArg (fun n:Int=>D.v (.int .i64 n)) (by rw [wrap64 _ (by omega) (by omega)];omega)
      |exact congrArg (fun n:Int=>D.v (.int .i64 n)) (by omega)
 ·have f11:¬ ((i:Int)< ((List.map rqP l).length:Int)):=of_decide_eq_false e1
  refine Eq.trans (b:=int (rk (prB l i) (nzA l i))) ?_ rfl
  obtain rfl:i=l.length:=by omega
  rw [show rkL l=rk (prB l l.length) (nzA l l.length) from ZcE (Zuy l).symm Iff.rfl]
theorem Zpo {l:List (Rat×Rat)} (hcz:pz l) (hn:l.length≤1073741824) (k:∀ n,n=rkL l→K (int n)):Ask 63 [.val (.one (.d (.list (List.map rqP l))))] K:=use (ZmW l hcz hn) rfl (k _ rfl)
end
end Go.Proofs.YtpfemjpgbpnpkaaGreatDoor.eng
namespace Go.Proofs.YtpfemjpgbpnpkaaGreatDoor.eng
open Go.RowKit num mem seg q held ratA ratB ratC ratD ratE vars ratF trq
section
variable {K : AV → Prop}
theorem Zsg {l m:List Rat} {u v:List (List D)} (e:l=m) (hu:u=RL l) (hv:v=RL m) (hn:l.length≤1099511627776) (k:K (bool true)):Ask 49 [.val (.one (.d (.list u))),.val (.one (.d (.list v)))] K:=by
 subst e
 exact Zk7 l l hu hv hn hn fun b hb=>by rw [hb,decide_eq_true rfl];exact k
end
end Go.Proofs.YtpfemjpgbpnpkaaGreatDoor.eng
namespace Go.Proofs.YtpfemjpgbpnpkaaGreatDoor.eng
open Go.RowKit num mem seg q held ratA ratB ratC ratD ratE vars ratF argopen
section
variable {K : AV → Prop}
def itF (s:Rat) (a b:List RV) (i:Nat):Rat:=qAt a i+s*(qAt b i - qAt a i)
def itL (s:Rat) (a b:List RV) (n:Nat):List Rat:=(List.range n).map (itF s a b)
def qsL (l:List RV):List Rat:=l.map RV.q
def atR (x:Int×List RV):List (Int×List RV)→Int→List Rat
 | [],_=>qsL x.2
 |y :: r,n=>if n< y.1 then itL (((n:Rat) - (x.1:Rat)) / ((y.1:Rat) - (x.1:Rat))) x.2 y.2 (min x.2.length y.2.length) else atR y r n
def atL:List (Int×List RV)→Int→List Rat
 | [],_=> []
 |x :: r,n=>if n≤x.1 then qsL x.2 else atR x r n
theorem ZjP (s:Rat) (a b:List RV) (n:Nat):(itL s a b n).length=n:=by simp [itL]
theorem Zld {α:Type} (g:Rat→α) (s:Rat) (a b:List RV) (i:Nat):List.map g (itL s a b (i+1))=List.map g (itL s a b i)++ [g (itF s a b i)]:=by simp [itL,List.range_succ]
theorem ZkP {α:Type} (g:Rat→α) {l:List RV} {i:Nat} {x:RV} (h:l[i]? =some x):List.map g (qsL (l.take (i+1)))=List.map g (qsL (l.take i))++ [g x.q]:=by
 rw [List.take_add_one,h];simp [qsL]
theorem Zb7 (l:List RV):(qsL l).length=l.length:=List.length_map ..
theorem ZpS {α:Type} {l:List α} {i:Nat} {y:α} (h:l[i]? =some y):l.drop i=y :: l.drop (i+1):=by
 obtain⟨hi,rfl⟩:=List.getElem?_eq_some_iff.1 h
 exact List.drop_eq_getElem_cons hi
theorem ZsH {α:Type} {l:List α} {i:Nat} (h:l.length≤i):l.drop i= []:=List.drop_eq_nil_of_le h
theorem Zqe {a b:Int} (h:a< b):(b:Rat) - (a:Rat)≠0:=by
 intro e
 have:(b:Rat)=(a:Rat):=by grind
 have:=Rat.intCast_inj.1 this
 omega
theorem ZvB {t:List (Int×List RV)} {x:Int×List RV} {n:Int} (h:t[0]? =some x) (g:n≤x.1):atL t n=qsL x.2:=by
 cases t with
 |nil=>simp at h
 |cons a r=>obtain rfl:=Option.some.inj (show some a=some x from h);exact if_pos g
theorem Zx9 {t:List (Int×List RV)} {x:Int×List RV} {n:Int} (h:t[0]? =some x) (g:¬ n≤x.1):atL t n=atR x (t.drop 1) n:=by
 cases t with
 |nil=>simp at h
 |cons a r=>obtain rfl:=Option.some.inj (show some a=some x from h);exact if_neg g
def atI (t:List (Int×List RV)) (n:Int) (i:Nat) (x:Int×List RV):Prop:=t[i]? =some x∧x.1≤n∧atL t n=atR x (t.drop (i+1)) n
theorem ZvD {t:List (Int×List RV)} {x:Int×List RV} {n:Int} (h:t[0]? =some x) (g:¬ n≤x.1):atI t n 0 x:=⟨h,by omega,Zx9 h g⟩
theorem ZsW {t:List (Int×List RV)} {x y:Int×List RV} {n:Int} {i:Nat} (h:atI t n i x) (hy:t[i+1]? =some y) (g:¬ n< y.1):atI t n (i+1) y:=by
 refine⟨hy,by omega,?_⟩
 rw [h.2.2,ZpS hy]
 exact if_neg g
theorem Zqn {t:List (Int×List RV)} {x y:Int×List RV} {n:Int} {i:Nat} (h:atI t n i x) (hy:t[i+1]? =some y) (g:n< y.1):atL t n=itL (((n:Rat) - (x.1:Rat)) / ((y.1:Rat) - (x.1:Rat))) x.2 y.2 (min x.2.length y.2.length):=by
 rw [h.2.2,ZpS hy]
 exact if_pos g
theorem Zkc {t:List (Int×List RV)} {x:Int×List RV} {n:Int} {i:Nat} (h:atI t n i x) (hi:t.length≤i+1):atL t n=qsL x.2:=by
 rw [h.2.2,ZsH hi];rfl
def tz (t:List (Int×List RV)):Prop:=t.length≤1048576∧∀ k,k∈t→(-9223372036854775808≤k.1∧k.1≤9223372036854775807)∧k.2.length≤1048576∧∀ x,x∈k.2→x.z≤1048577
theorem Zj7 (l:List RV) (hl:∀ x,x∈l→x.z≤1048577) (hn:l.length≤1048576):Spec Tryz.prog Tab 166 [.val (.one (.d (.list (List.map rd l))))] (.val (.one (.d (.list (List.map rdc (qsL l)))))):=by
 have hL:(List.map rd l).length=l.length:=List.length_map ..
 refine Za Tryz.func166 rfl rfl Tryz.ntmps166 rfl (by kernel_rfl) rfl rfl ?_
 refine⟨Nat,fun i=> [(3,.val (.one (.row 17 0))),(6,.val (.one (.d (.list (List.map rd l))))),(7,int ((List.map rd l).length:Int)),(8,int (i:Int))],
  fun i=> [(17,.row 23 3 0 (List.map rdc (qsL (l.take i))) true)],fun i=>i≤l.length,fun i=>l.length - i,0,?_,Nat.zero_le _,fun i hs=> ?_⟩
 ·constructor<;>(repeat' (first|exact rfl|exact True.intro|exact⟨_,_,rfl⟩|exact(by decide)|apply And.intro))
  all_goals first|exact congrArg (fun n:Int=>D.v (.int .i64 n)) (by omega)|exact congrArg (fun n:Int=>D.v (.int .i64 n)) (by rw [wrap64 _ (by omega) (by omega)];omega)|(simp;done)
 have hT:(List.map rdc (qsL (l.take i))).length≤1048576:=by rw [List.length_map,Zb7,List.length_take];omega
 refine⟨fun e1=> ?_,fun e1=> ?_⟩
 ·have f9:(i:Int)< ((List.map rd l).length:Int):=of_decide_eq_true e1
  refine Zc (l:=l) (i:=i) (by first|omega|exact Nat.mod_lt _ (by omega)) fun x10 hx10=> ?_
  have hzx10:=hl x10 (List.mem_of_getElem? hx10)
  refine k_ix i [D.v (.bool x10.s),D.v (.string x10.a),D.v (.string x10.d)] (by first|rfl|omega|(rw [wrap64 _ (by omega) (by omega)];omega)) (Zb hx10) rfl ?_
  refine k_of (0) (by omega) (by omega) fun q14 h14 z14=> ?_
  simp only [cn_z] at z14
  refine ZcC (x:=x10) (y:=cn q14) (by omega) (by simp only [cn_z];omega) fun q15 h15 z15=> ?_
  simp only [cn_z] at z15
  simp only [cn_q] at h15
  refine⟨⟨row1 rfl,(by show ((List.map rdc (qsL (l.take i))).length+1)*40≤_;omega),(by show ((List.map rdc (qsL (l.take i))).length+1)≤_;omega)⟩,?_⟩
  refine⟨by kernel_rfl,?_⟩
  have e15:q15=x10.q:=by rw [h15,h14,Rat.intCast_zero,Rat.add_zero]
  clear h15
  subst e15
  refine⟨i+1,by omega,by simp only;omega,?_⟩
  constructor<;>(repeat' (first|exact rfl|exact True.intro|apply And.intro))
  all_goals first
   |(rw [ZkP _ hx10];rfl)
   |exact congrArg (fun n:Int=>D.v (.int .i64 n)) (by rw [wrap64 _ (by omega) (by omega)];omega)
   |exact congrArg (fun n:Int=>D.v (.int .i64 n)) (by omega)
 ·have f9:¬ ((i:Int)< ((List.map rd l).length:Int)):=of_decide_eq_false e1
  refine Eq.trans (b:= .val (.one (.d (.list (List.map rdc (qsL (l.take i))))))) ?_ rfl
  rw [List.take_of_length_le (by omega)]
theorem Zcv {l:List RV} (hl:∀ x,x∈l→x.z≤1048577) (hn:l.length≤1048576) (k:K (.val (.one (.d (.list (List.map rdc (qsL l))))))):Ask 166 [.val (.one (.d (.list (List.map rd l))))] K:=use (Zj7 l hl hn) rfl k
theorem ZmX (l:List RV) (hl:∀ x,x∈l→x.z≤1048577) (hn:l.length≤1048576):Spec Tryz.prog Tab 168 [.val (.one (.d (.list (List.map rd l))))] (.val (.one (.d (.list (List.map q3d (qsL l)))))):=by
 have hL:(List.map rd l).length=l.length:=List.length_map ..
 refine Za Tryz.func168 rfl rfl Tryz.ntmps168 rfl (by kernel_rfl) rfl rfl ?_
 refine⟨Nat,fun i=> [(3,.val (.one (.row 16 0))),(6,.val (.one (.d (.list (List.map rd l))))),(7,int ((List.map rd l).length:Int)),(8,int (i:Int))],
  fun i=> [(16,.row 51 3 0 (List.map q3d (qsL (l.take i))) true)],fun i=>i≤l.length,fun i=>l.length - i,0,?_,Nat.zero_le _,fun i hs=> ?_⟩
 ·constructor<;>(repeat' (first|exact rfl|exact True.intro|exact⟨_,_,rfl⟩|exact(by decide)|apply And.intro))
  all_goals first|exact congrArg (fun n:Int=>D.v (.int .i64 n)) (by omega)|exact congrArg (fun n:Int=>D.v (.int .i64 n)) (by rw [wrap64 _ (by omega) (by omega)];omega)|(simp;done)
 have hT:(List.map q3d (qsL (l.take i))).length≤1048576:=by rw [List.length_map,Zb7,List.length_take];omega
 refine⟨fun e1=> ?_,fun e1=> ?_⟩
 ·have f9:(i:Int)< ((List.map rd l).length:Int):=of_decide_eq_true e1
  refine Zc (l:=l) (i:=i) (by first|omega|exact Nat.mod_lt _ (by omega)) fun x10 hx10=> ?_
  have hzx10:=hl x10 (List.mem_of_getElem? hx10)
  refine k_ix i [D.v (.bool x10.s),D.v (.string x10.a),D.v (.string x10.d)] (by first|rfl|omega|(rw [wrap64 _ (by omega) (by omega)];omega)) (Zb hx10) rfl ?_
  refine Zr (x:=x10) (by omega) fun q14 h14 z14=> ?_
  refine⟨⟨row1 rfl,(by show ((List.map q3d (qsL (l.take i))).length+1)*56≤_;omega),(by show ((List.map q3d (qsL (l.take i))).length+1)≤_;omega)⟩,?_⟩
  subst h14
  refine⟨i+1,by omega,by simp only;omega,?_⟩
  constructor<;>(repeat' (first|exact rfl|exact True.intro|apply And.intro))
  all_goals first
   |(rw [ZkP _ hx10];rfl)
   |exact congrArg (fun n:Int=>D.v (.int .i64 n)) (by rw [wrap64 _ (by omega) (by omega)];omega)
   |exact congrArg (fun n:Int=>D.v (.int .i64 n)) (by omega)
 ·have f9:¬ ((i:Int)< ((List.map rd l).length:Int)):=of_decide_eq_false e1
  refine Eq.trans (b:= .val (.one (.d (.list (List.map q3d (qsL (l.take i))))))) ?_ rfl
  rw [List.take_of_length_le (by omega)]
theorem Zhe {l:List RV} (hl:∀ x,x∈l→x.z≤1048577) (hn:l.length≤1048576) (k:K (.val (.one (.d (.list (List.map q3d (qsL l))))))):Ask 168 [.val (.one (.d (.list (List.map rd l))))] K:=use (ZmX l hl hn) rfl k
set_option maxHeartbeats 2000000 in
theorem Zs1 (t:List (Int×List RV)) (n:Int) (ht:tz t) (hn:-9223372036854775808≤n∧n≤9223372036854775807):Spec Tryz.prog Tab 162 [.val (.one (.d (.list (List.map keyD t)))),int n] (.val (.one (.d (.list (List.map rdc (atL t n)))))):=by
 have hL:(List.map keyD t).length=t.length:=List.length_map ..
 have ht1:=ht.1
 refine Za Tryz.func162 rfl rfl Tryz.ntmps162 rfl (by kernel_rfl) rfl rfl ?_
 refine⟨fun e1=> ?_,fun e1=> ?_⟩
 ·have f15:((List.map keyD t).length:Int)=0:=ZP e1
  refine Eq.trans (b:= .val (.one (.d (.list ([]))))) ?_ rfl
  have:t= []:=List.eq_nil_of_length_eq_zero (by omega)
  subst this
  rfl
 ·have f15:¬ (((List.map keyD t).length:Int)=0):=ZQ e1
  refine Zc (l:=t) (i:=0) (by first|omega|exact Nat.mod_lt _ (by omega)) fun x18 hx18=> ?_
  have hzx18:=ht.2 x18 (List.mem_of_getElem? hx18)
  have hLax18:(List.map rd x18.2).length=x18.2.length:=List.length_map ..
  refine k_ix 0 [D.v (.int .i64 (x18.1)),D.list (List.map rd x18.2)] (by first|rfl|omega|(rw [wrap64 _ (by omega) (by omega)];omega)) (Zb hx18) rfl ?_
  refine⟨fun e2=> ?_,fun e2=> ?_⟩
  ·have f21:n≤x18.1:=of_decide_eq_true e2
   refine k_ix 0 [D.v (.int .i64 (x18.1)),D.list (List.map rd x18.2)] (by first|rfl|omega|(rw [wrap64 _ (by omega) (by omega)];omega)) (Zb hx18) rfl ?_
   refine Zcv (l:=x18.2) hzx18.2.2 hzx18.2.1 ?_
   refine Eq.trans (b:= .val (.one (.d (.list (List.map rdc (qsL x18.2)))))) ?_ rfl
   rw [ZvB hx18 f21]
  ·have f21:¬ (n≤x18.1):=of_decide_eq_false e2
   refine⟨Nat×(Int×List RV),fun (i,x)=> [(0,.val (.one (.d (.list (List.map keyD t))))),(1,int n),(5,int (i:Int))],
    fun (i,x)=> [],fun (i,x)=>1≤i∧i≤t.length∧atI t n (i - 1) x,fun (i,x)=>t.length - i,(1,x18),?_,⟨Nat.le_refl _,by omega,ZvD hx18 f21⟩,fun s hs=> ?_⟩
   ·constructor<;>(repeat' (first|exact rfl|exact True.intro|exact⟨_,_,rfl⟩|exact(by decide)|apply And.intro))
    all_goals first|exact congrArg (fun n:Int=>D.v (.int .i64 n)) (by omega)|exact congrArg (fun n:Int=>D.v (.int .i64 n)) (by rw [wrap64 _ (by omega) (by omega)];omega)|(simp;done)
   obtain⟨i,x⟩:=s
   obtain⟨h1,h2,h3⟩:=hs
   refine⟨fun e3=> ?_,fun e3=> ?_⟩
   ·have f30:(i:Int)< ((List.map keyD t).length:Int):=of_decide_eq_true e3
    refine Zc (l:=t) (i:=i) (by first|omega|exact Nat.mod_lt _ (by omega)) fun x35 hx35=> ?_
    have hzx35:=ht.2 x35 (List.mem_of_getElem? hx35)
    have hLax35:(List.map rd x35.2).length=x35.2.length:=List.length_map ..
    refine k_ix i [D.v (.int .i64 (x35.1)),D.list (List.map rd x35.2)] (by first|rfl|omega|(rw [wrap64 _ (by omega) (by omega)];omega)) (Zb hx35) rfl ?_
    refine⟨fun e4=> ?_,fun e4=> ?_⟩
    ·have f39:x35.1≤n:=of_decide_eq_true e4
     refine⟨(i+1,x35),⟨by omega,by omega,by have hh:=ZsW h3 (by rw [show i - 1+1=i by omega];exact hx35) (by omega);rwa [show i - 1+1=i+1 - 1 by omega] at hh⟩,by simp only;omega,?_⟩
     constructor<;>(repeat' (first|exact rfl|exact True.intro|apply And.intro))
     all_goals first
      |exact congrArg (fun n:Int=>D.v (.int .i64 n)) (by rw [wrap64 _ (by omega) (by omega)];omega)
      |exact congrArg (fun n:Int=>D.v (.int .i64 n)) (by omega)
    ·have f39:¬ (x35.1≤n):=of_decide_eq_false e4
     refine Zc (l:=t) (i:=(i - 1)) (by first|omega|exact Nat.mod_lt _ (by omega)) fun x43 hx43=> ?_
     have hzx43:=ht.2 x43 (List.mem_of_getElem? hx43)
     have hLax43:(List.map rd x43.2).length=x43.2.length:=List.length_map ..
     have he43:x43=x:=Option.some.inj (hx43.symm.trans h3.1)
     have hle43:x43.1≤n:=by rw [he43];exact h3.2.1
     refine k_ix (i - 1) [D.v (.int .i64 (x43.1)),D.list (List.map rd x43.2)] (by first|rfl|omega|(rw [wrap64 _ (by omega) (by omega)];omega)) (Zb hx43) rfl ?_
     refine k_ix i [D.v (.int .i64 (x35.1)),D.list (List.map rd x35.2)] (by first|rfl|omega|(rw [wrap64 _ (by omega) (by omega)];omega)) (Zb hx35) rfl ?_
     refine⟨by kernel_rfl,?_⟩
     refine k_of (x43.1) (by omega) (by omega) fun q51 h51 z51=> ?_
     simp only [cn_z] at z51
     refine k_of (n) (by omega) (by omega) fun q54 h54 z54=> ?_
     simp only [cn_z] at z54
     refine ZcW (x:=cn q54) (y:=cn q51) (by simp only [cn_z];omega) (by simp only [cn_z];omega) fun q56 h56 z56=> ?_
     simp only [cn_z] at z56
     simp only [cn_q] at h56
     refine k_of (x35.1) (by omega) (by omega) fun q59 h59 z59=> ?_
     simp only [cn_z] at z59
     refine ZcW (x:=cn q59) (y:=cn q51) (by simp only [cn_z];omega) (by simp only [cn_z];omega) fun q61 h61 z61=> ?_
     simp only [cn_z] at z61
     simp only [cn_q] at h61
     refine Zhd (x:=cn q56) (y:=cn q61) (by simp only [cn_z];omega) (by simp only [cn_z];omega) (by rw [cn_q,h61,h59,h51];exact Zqe (by omega)) fun q62 h62 z62=> ?_
     simp only [cn_z] at z62
     simp only [cn_q] at h62
     refine⟨by kernel_rfl,?_⟩
     have hs62:q62=(((n:Rat) - (x43.1:Rat)) / ((x35.1:Rat) - (x43.1:Rat))):=by rw [h62,h56,h61,h59,h54,h51]
     have hmn:(if ((List.map rd x35.2).length:Int)< ((List.map rd x43.2).length:Int) then ((List.map rd x35.2).length:Int) else ((List.map rd x43.2).length:Int))=((min x43.2.length x35.2.length:Nat):Int):=by rw [hLax35,hLax43];split<;>omega
     refine⟨Nat,fun k=> [(6,.val (.one (.ptr 6 0))),(7,.val (.one (.ptr 7 0))),(9,.val (.one (.ptr 9 0))),(11,.val (.one (.row 96 0))),(71,int ((min x43.2.length x35.2.length:Nat):Int)),(72,int (k:Int))],
      fun k=> [(6,.var 123 [.d (.v (.int .i64 (x43.1))),.d (.list (List.map rd x43.2))]),(7,.var 123 [.d (.v (.int .i64 (x35.1))),.d (.list (List.map rd x35.2))]),(9,.var 23 [.d (.v (.bool (cn q62).s)),.d (.v (.string (cn q62).a)),.d (.v (.string (cn q62).d))]),(96,.row 23 3 0 (List.map rdc (itL (((n:Rat) - (x43.1:Rat)) / ((x35.1:Rat) - (x43.1:Rat))) x43.2 x35.2 k)) true)],fun k=>k≤min x43.2.length x35.2.length,fun k=>min x43.2.length x35.2.length - k,0,?_,Nat.zero_le _,fun k hs=> ?_⟩
     ·constructor<;>(repeat' (first|exact rfl|exact True.intro|exact⟨_,_,rfl⟩|exact(by decide)|apply And.intro))
      all_goals first
       |exact congrArg (fun n:Int=>D.v (.int .i64 n)) hmn
       |exact congrArg (fun n:Int=>D.v (.int .i64 n)) hmn.symm
       |exact congrArg (fun n:Int=>D.v (.int .i64 n)) (by omega)
       |(simp;done)
     have hT:(List.map rdc (itL (((n:Rat) - (x43.1:Rat)) / ((x35.1:Rat) - (x43.1:Rat))) x43.2 x35.2 k)).length≤1048576:=by rw [List.length_map,ZjP];omega
     refine⟨fun e5=> ?_,fun e5=> ?_⟩
     ·have f73:(k:Int)< ((min x43.2.length x35.2.length:Nat):Int):=of_decide_eq_true e5
      refine Zc (l:=x43.2) (i:=k) (by first|omega|exact Nat.mod_lt _ (by omega)) fun x79 hx79=> ?_
      have hzx79:=hzx43.2.2 x79 (List.mem_of_getElem? hx79)
      refine k_ix k [D.v (.bool x79.s),D.v (.string x79.a),D.v (.string x79.d)] (by first|rfl|omega|(rw [wrap64 _ (by omega) (by omega)];omega)) (Zb hx79) rfl ?_
      refine Zc (l:=x35.2) (i:=k) (by first|omega|exact Nat.mod_lt _ (by omega)) fun x85 hx85=> ?_
      have hzx85:=hzx35.2.2 x85 (List.mem_of_getElem? hx85)
      refine k_ix k [D.v (.bool x85.s),D.v (.string x85.a),D.v (.string x85.d)] (by first|rfl|omega|(rw [wrap64 _ (by omega) (by omega)];omega)) (Zb hx85) rfl ?_
      refine k_ix k [D.v (.bool x79.s),D.v (.string x79.a),D.v (.string x79.d)] (by first|rfl|omega|(rw [wrap64 _ (by omega) (by omega)];omega)) (Zb hx79) rfl ?_
      refine ZcW (x:=x85) (y:=x79) (by omega) (by omega) fun q92 h92 z92=> ?_
      simp only [cn_z] at z92
      refine Zbb (x:=cn q62) (y:=cn q92) (by simp only [cn_z];omega) (by simp only [cn_z];omega) fun q93 h93 z93=> ?_
      simp only [cn_z] at z93
      simp only [cn_q] at h93
      refine ZcC (x:=x79) (y:=cn q93) (by omega) (by simp only [cn_z];omega) fun q94 h94 z94=> ?_
      simp only [cn_z] at z94
      simp only [cn_q] at h94
      refine⟨⟨row1 rfl,(by show ((List.map rdc (itL (((n:Rat) - (x43.1:Rat)) / ((x35.1:Rat) - (x43.1:Rat))) x43.2 x35.2 k)).length+1)*40≤_;omega),(by show ((List.map rdc (itL (((n:Rat) - (x43.1:Rat)) / ((x35.1:Rat) - (x43.1:Rat))) x43.2 x35.2 k)).length+1)≤_;omega)⟩,?_⟩
      refine⟨by kernel_rfl,?_⟩
      have e94:q94=itF (((n:Rat) - (x43.1:Rat)) / ((x35.1:Rat) - (x43.1:Rat))) x43.2 x35.2 k:=by rw [h94,h93,h92,hs62];unfold itF;rw [ZR hx79,ZR hx85]
      clear h94
      subst e94
      refine⟨k+1,by omega,by simp only;omega,?_⟩
      constructor<;>(repeat' (first|exact rfl|exact True.intro|apply And.intro))
      all_goals first
       |(rw [Zld];rfl)
       |exact congrArg (fun n:Int=>D.v (.int .i64 n)) (by rw [wrap64 _ (by omega) (by omega)];omega)
       |exact congrArg (fun n:Int=>D.v (.int .i64 n)) (by omega)
     ·have f73:¬ ((k:Int)< ((min x43.2.length x35.2.length:Nat):Int)):=of_decide_eq_false e5
      refine Eq.trans (b:= .val (.one (.d (.list (List.map rdc (itL (((n:Rat) - (x43.1:Rat)) / ((x35.1:Rat) - (x43.1:Rat))) x43.2 x35.2 k)))))) ?_ rfl
      have hkk:k=min x43.2.length x35.2.length:=by omega
      rw [Zqn h3 (by rw [show i - 1+1=i by omega];exact hx35) (by omega),← he43,hkk]
   ·have f30:¬ ((i:Int)< ((List.map keyD t).length:Int)):=of_decide_eq_false e3
    refine Zc (l:=t) (i:=(t.length - 1)) (by first|omega|exact Nat.mod_lt _ (by omega)) fun x103 hx103=> ?_
    have hzx103:=ht.2 x103 (List.mem_of_getElem? hx103)
    have hLax103:(List.map rd x103.2).length=x103.2.length:=List.length_map ..
    refine k_ix (t.length - 1) [D.v (.int .i64 (x103.1)),D.list (List.map rd x103.2)] (by first|rfl|omega|(rw [wrap64 _ (by omega) (by omega)];omega)) (Zb hx103) rfl ?_
    refine Zcv (l:=x103.2) hzx103.2.2 hzx103.2.1 ?_
    refine Eq.trans (b:= .val (.one (.d (.list (List.map rdc (qsL x103.2)))))) ?_ rfl
    have hx:x=x103:=Option.some.inj (h3.1.symm.trans (by rw [show i - 1=t.length - 1 by omega];exact hx103))
    rw [Zkc h3 (by omega),hx]
theorem Zsl {t:List (Int×List RV)} {u:Int} (n:Int) (hu:u=n) (ht:tz t) (hn:-9223372036854775808≤n∧n≤9223372036854775807) (k:K (.val (.one (.d (.list (List.map rdc (atL t n))))))):Ask 162 [.val (.one (.d (.list (List.map keyD t)))),int u] K:=by
 subst hu;exact use (Zs1 t u ht hn) rfl k
set_option maxHeartbeats 2000000 in
theorem Zs3 (t:List (Int×List RV)) (n:Int) (ht:tz t) (hn:-9223372036854775808≤n∧n≤9223372036854775807):Spec Tryz.prog Tab 169 [.val (.one (.d (.list (List.map keyD t)))),int n] (.val (.one (.d (.list (List.map q3d (atL t n)))))):=by
 have hL:(List.map keyD t).length=t.length:=List.length_map ..
 have ht1:=ht.1
 refine Za Tryz.func169 rfl rfl Tryz.ntmps169 rfl (by kernel_rfl) rfl rfl ?_
 refine⟨fun e1=> ?_,fun e1=> ?_⟩
 ·have f15:((List.map keyD t).length:Int)=0:=ZP e1
  refine Eq.trans (b:= .val (.one (.d (.list ([]))))) ?_ rfl
  have:t= []:=List.eq_nil_of_length_eq_zero (by omega)
  subst this
  rfl
 ·have f15:¬ (((List.map keyD t).length:Int)=0):=ZQ e1
  refine Zc (l:=t) (i:=0) (by first|omega|exact Nat.mod_lt _ (by omega)) fun x17 hx17=> ?_
  have hzx17:=ht.2 x17 (List.mem_of_getElem? hx17)
  have hLax17:(List.map rd x17.2).length=x17.2.length:=List.length_map ..
  refine k_ix 0 [D.v (.int .i64 (x17.1)),D.list (List.map rd x17.2)] (by first|rfl|omega|(rw [wrap64 _ (by omega) (by omega)];omega)) (Zb hx17) rfl ?_
  refine⟨fun e2=> ?_,fun e2=> ?_⟩
  ·have f22:n≤x17.1:=of_decide_eq_true e2
   refine Zhe (l:=x17.2) hzx17.2.2 hzx17.2.1 ?_
   refine Eq.trans (b:= .val (.one (.d (.list (List.map q3d (qsL x17.2)))))) ?_ rfl
   rw [ZvB hx17 f22]
  ·have f22:¬ (n≤x17.1):=of_decide_eq_false e2
   refine ZwK 1 (List.map keyD (t.drop 1)) (by first|omega|(simp;omega)|simp) (by first|rfl|omega|(rw [wrap64 _ (by omega) (by omega)];omega)) (Zbk fun _=>rfl) (List.map_drop.symm) ?_
   have hLd:(List.map keyD (t.drop 1)).length=t.length - 1:=by rw [List.length_map,List.length_drop]
   have hLd2:(t.drop 1).length=t.length - 1:=List.length_drop ..
   refine⟨Nat×(Int×List RV),fun (i,x)=> [(1,int n),(5,.val (.one (.ptr 5 0))),(27,.val (.one (.d (.list (List.map keyD (t.drop 1)))))),(28,int ((List.map keyD (t.drop 1)).length:Int)),(29,int (i:Int))],
    fun (i,x)=> [(5,.var 123 [.d (.v (.int .i64 (x.1))),.d (.list (List.map rd x.2))])],fun (i,x)=>i+1≤t.length∧atI t n i x,fun (i,x)=>t.length - i,(0,x17),?_,⟨by omega,ZvD hx17 f22⟩,fun s hs=> ?_⟩
   ·constructor<;>(repeat' (first|exact rfl|exact True.intro|exact⟨_,_,rfl⟩|exact(by decide)|apply And.intro))
    all_goals first|exact congrArg (fun n:Int=>D.v (.int .i64 n)) (by omega)|exact congrArg (fun n:Int=>D.v (.int .i64 n)) (by rw [wrap64 _ (by omega) (by omega)];omega)|(simp;done)
   obtain⟨i,x⟩:=s
   obtain⟨h2,h3⟩:=hs
   have hzx:=ht.2 x (List.mem_of_getElem? h3.1)
   have hLax:(List.map rd x.2).length=x.2.length:=List.length_map ..
   have hle:=h3.2.1
   refine⟨fun e3=> ?_,fun e3=> ?_⟩
   ·have f30:(i:Int)< ((List.map keyD (t.drop 1)).length:Int):=of_decide_eq_true e3
    refine Zc (l:=(t.drop 1)) (i:=i) (by first|omega|exact Nat.mod_lt _ (by omega)) fun x31 hx31=> ?_
    have hy31:t[i+1]? =some x31:=by
     have:=hx31
     rw [List.getElem?_drop] at this
     rwa [Nat.add_comm] at this
    have hzx31:=ht.2 x31 (List.mem_of_getElem? hy31)
    have hLax31:(List.map rd x31.2).length=x31.2.length:=List.length_map ..
    refine k_ix i [D.v (.int .i64 (x31.1)),D.list (List.map rd x31.2)] (by first|rfl|omega|(rw [wrap64 _ (by omega) (by omega)];omega)) (Zb hx31) rfl ?_
    refine⟨fun e4=> ?_,fun e4=> ?_⟩
    ·have f36:x31.1 >n:=of_decide_eq_true e4
     refine k_N3 (n) (by omega) (by omega) fun q38 h38 z38=> ?_
     refine k_N3 (x.1) (by omega) (by omega) fun q41 h41 z41=> ?_
     refine ZaJ (p:=q38) (q:=q41) (by omega) (by omega) fun q42 h42 z42=> ?_
     refine k_N3 (x31.1) (by omega) (by omega) fun q45 h45 z45=> ?_
     refine k_N3 (x.1) (by omega) (by omega) fun q48 h48 z48=> ?_
     refine ZaJ (p:=q45) (q:=q48) (by omega) (by omega) fun q49 h49 z49=> ?_
     refine Zgo (p:=q42) (q:=q49) (by omega) (by omega) (by rw [h49,h45,h48];exact Zqe (by omega)) fun q50 h50 z50=> ?_
     refine⟨by kernel_rfl,?_⟩
     have hs50:q50=(((n:Rat) - (x.1:Rat)) / ((x31.1:Rat) - (x.1:Rat))):=by rw [h50,h42,h49,h38,h41,h45,h48]
     have hmn:(if ((List.map rd x31.2).length:Int)< ((List.map rd x.2).length:Int) then ((List.map rd x31.2).length:Int) else ((List.map rd x.2).length:Int))=((min x.2.length x31.2.length:Nat):Int):=by rw [hLax31,hLax];split<;>omega
     refine⟨Nat,fun k=> [(5,.val (.one (.ptr 5 0))),(7,.val (.one (.ptr 7 0))),(8,.val (.one (.ptr 8 0))),(9,.val (.one (.row 84 0))),(57,int ((min x.2.length x31.2.length:Nat):Int)),(58,int (k:Int))],
      fun k=> [(5,.var 123 [.d (.v (.int .i64 (x.1))),.d (.list (List.map rd x.2))]),(7,.var 123 [.d (.v (.int .i64 (x31.1))),.d (.list (List.map rd x31.2))]),(8,.var 51 [.d (.v (.bool (decide (q50.num< 0)))),.d (.list (W (w32 q50.num.natAbs))),.d (.list (W (w32 q50.den)))]),(84,.row 51 3 0 (List.map q3d (itL (((n:Rat) - (x.1:Rat)) / ((x31.1:Rat) - (x.1:Rat))) x.2 x31.2 k)) true)],fun k=>k≤min x.2.length x31.2.length,fun k=>min x.2.length x31.2.length - k,0,?_,Nat.zero_le _,fun k hs=> ?_⟩
     ·constructor<;>(repeat' (first|exact rfl|exact True.intro|exact⟨_,_,rfl⟩|exact(by decide)|apply And.intro))
      all_goals first
       |exact congrArg (fun n:Int=>D.v (.int .i64 n)) hmn
       |exact congrArg (fun n:Int=>D.v (.int .i64 n)) hmn.symm
       |exact congrArg (fun n:Int=>D.v (.int .i64 n)) (by omega)
       |(simp;done)
     have hT:(List.map q3d (itL (((n:Rat) - (x.1:Rat)) / ((x31.1:Rat) - (x.1:Rat))) x.2 x31.2 k)).length≤1048576:=by rw [List.length_map,ZjP];omega
     refine⟨fun e5=> ?_,fun e5=> ?_⟩
     ·have f59:(k:Int)< ((min x.2.length x31.2.length:Nat):Int):=of_decide_eq_true e5
      refine Zc (l:=x.2) (i:=k) (by first|omega|exact Nat.mod_lt _ (by omega)) fun x64 hx64=> ?_
      have hzx64:=hzx.2.2 x64 (List.mem_of_getElem? hx64)
      refine k_ix k [D.v (.bool x64.s),D.v (.string x64.a),D.v (.string x64.d)] (by first|rfl|omega|(rw [wrap64 _ (by omega) (by omega)];omega)) (Zb hx64) rfl ?_
      refine Zr (x:=x64) (by omega) fun q66 h66 z66=> ?_
      refine Zc (l:=x31.2) (i:=k) (by first|omega|exact Nat.mod_lt _ (by omega)) fun x70 hx70=> ?_
      have hzx70:=hzx31.2.2 x70 (List.mem_of_getElem? hx70)
      refine k_ix k [D.v (.bool x70.s),D.v (.string x70.a),D.v (.string x70.d)] (by first|rfl|omega|(rw [wrap64 _ (by omega) (by omega)];omega)) (Zb hx70) rfl ?_
      refine Zr (x:=x70) (by omega) fun q72 h72 z72=> ?_
      refine⟨by kernel_rfl,?_⟩
      refine k_N3 (1) (by omega) (by omega) fun q75 h75 z75=> ?_
      refine ZaJ (p:=q75) (q:=q50) (by omega) (by omega) fun q77 h77 z77=> ?_
      refine Zay (p:=q66) (q:=q77) (by omega) (by omega) fun q78 h78 z78=> ?_
      refine Zay (p:=q72) (q:=q50) (by omega) (by omega) fun q81 h81 z81=> ?_
      refine Zcf (p:=q78) (q:=q81) (by omega) (by omega) fun q82 h82 z82=> ?_
      refine⟨⟨row1 rfl,(by show ((List.map q3d (itL (((n:Rat) - (x.1:Rat)) / ((x31.1:Rat) - (x.1:Rat))) x.2 x31.2 k)).length+1)*56≤_;omega),(by show ((List.map q3d (itL (((n:Rat) - (x.1:Rat)) / ((x31.1:Rat) - (x.1:Rat))) x.2 x31.2 k)).length+1)≤_;omega)⟩,?_⟩
      refine⟨by kernel_rfl,?_⟩
      have e82:q82=itF (((n:Rat) - (x.1:Rat)) / ((x31.1:Rat) - (x.1:Rat))) x.2 x31.2 k:=by
       rw [h82,h78,h81,h77,h75,h66,h72,hs50]
       unfold itF
       rw [ZR hx64,ZR hx70,show ((1:Int):Rat)=1 from rfl]
       generalize (((n:Rat) - (x.1:Rat)) / ((x31.1:Rat) - (x.1:Rat)))=s
       grind
      clear h82
      subst e82
      refine⟨k+1,by omega,by simp only;omega,?_⟩
      constructor<;>(repeat' (first|exact rfl|exact True.intro|apply And.intro))
      all_goals first
       |(rw [Zld];rfl)
       |exact congrArg (fun n:Int=>D.v (.int .i64 n)) (by rw [wrap64 _ (by omega) (by omega)];omega)
       |exact congrArg (fun n:Int=>D.v (.int .i64 n)) (by omega)
     ·have f59:¬ ((k:Int)< ((min x.2.length x31.2.length:Nat):Int)):=of_decide_eq_false e5
      refine Eq.trans (b:= .val (.one (.d (.list (List.map q3d (itL (((n:Rat) - (x.1:Rat)) / ((x31.1:Rat) - (x.1:Rat))) x.2 x31.2 k)))))) ?_ rfl
      have hkk:k=min x.2.length x31.2.length:=by omega
      rw [Zqn h3 hy31 (by omega),hkk]
    ·have f36:¬ (x31.1 >n):=of_decide_eq_false e4
     refine⟨(i+1,x31),⟨by omega,ZsW h3 hy31 (by omega)⟩,by simp only;omega,?_⟩
     constructor<;>(repeat' (first|exact rfl|exact True.intro|apply And.intro))
     all_goals first
      |exact congrArg (fun n:Int=>D.v (.int .i64 n)) (by rw [wrap64 _ (by omega) (by omega)];omega)
      |exact congrArg (fun n:Int=>D.v (.int .i64 n)) (by omega)
   ·have f30:¬ ((i:Int)< ((List.map keyD (t.drop 1)).length:Int)):=of_decide_eq_false e3
    refine Zhe (l:=x.2) hzx.2.2 hzx.2.1 ?_
    refine Eq.trans (b:= .val (.one (.d (.list (List.map q3d (qsL x.2)))))) ?_ rfl
    rw [Zkc h3 (by omega)]
theorem ZwS {t:List (Int×List RV)} {u:Int} (n:Int) (hu:u=n) (ht:tz t) (hn:-9223372036854775808≤n∧n≤9223372036854775807) (k:K (.val (.one (.d (.list (List.map q3d (atL t n))))))):Ask 169 [.val (.one (.d (.list (List.map keyD t)))),int u] K:=by
 subst hu;exact use (Zs3 t u ht hn) rfl k
end
end Go.Proofs.YtpfemjpgbpnpkaaGreatDoor.eng
