/- Joined by wip/bundle.py: XSamp0 XSampN XSampA. -/
import Derived.Test.YtjlhknppkodilaaGreatDoorGrpA
import Derived.Test.YtjlhknppkodilaaGreatDoorGrpO
import Derived.Test.YtjlhknppkodilaaGreatDoorArmA
import Derived.Test.YtjlhknppkodilaaGreatDoorWg
set_option maxRecDepth 100000
namespace Go.Proofs.YtjlhknppkodilaaGreatDoor.eng
open Go.RowKit num mem seg q held ratA ratB ratC ratD ratE vars ratF
theorem Zbv {q:Rat} (h1:q.num.natAbs≤1000000) (h2:q.den≤1000):smallP (cn q):=
 ⟨ZoI q,by show nv (enc q.num.natAbs)≤_;rw [Zi];exact h1,by show nv (enc q.den)≤_;rw [Zi];exact h2⟩
def m1Q:Rat:=((-1:Int):Rat)
def m2Q:Rat:=((-2:Int):Rat)
def n1Q:Rat:=((1:Nat):Rat)
def n0Q:Rat:=((0:Nat):Rat)
def n2Q:Rat:=((2:Nat):Rat)
def q4Q:Rat:=((1:Int):Rat) / ((4:Int):Rat)
def q10Q:Rat:=((1:Int):Rat) / ((10:Int):Rat)
def sampS (n:Nat):List (RV×RV):= [(cn n0Q,cn m1Q),(cn (n:Rat),cn m1Q),(cn (n:Rat),cn n1Q),(cn n0Q,cn n1Q)]
def sampL (n:Nat):LinkV:=⟨cn (n:Rat),cn m2Q,cn n2Q,cn q4Q,cn q10Q,sampS n⟩
def sampA (l:List Nat):ArmV:=⟨⟨#[111,110,101]⟩,cn n0Q,cn n0Q,false,cn n0Q,l.map sampL⟩
theorem ZaK {n:Nat} (h:n< 256):smallP (cn (n:Rat)):=Zbv (by rw [Rat.num_natCast];omega) (by rw [Rat.den_natCast];omega)
theorem Zmv {n:Nat} (h1:1≤n):convE 8 (sampS n)=0:=by
 refine Znn.2 ⟨by show ¬ (8:Int)< ((4:Nat):Int);omega,by show ¬ (4:Nat)< 3;omega,?_⟩
 have hn:(0:Rat)< (n:Rat):=by
  have:((0:Nat):Rat)< (n:Rat):=Rat.natCast_lt_natCast.2 (by omega)
  exact this
 have p0:pts (sampS n) 0=(n0Q,m1Q):=by rw [ZbR (p:=(cn n0Q,cn m1Q)) rfl,cn_q,cn_q]
 have p1:pts (sampS n) 1=((n:Rat),m1Q):=by rw [ZbR (p:=(cn (n:Rat),cn m1Q)) rfl,cn_q,cn_q]
 have p2:pts (sampS n) 2=((n:Rat),n1Q):=by rw [ZbR (p:=(cn (n:Rat),cn n1Q)) rfl,cn_q,cn_q]
 have p3:pts (sampS n) 3=(n0Q,n1Q):=by rw [ZbR (p:=(cn n0Q,cn n1Q)) rfl,cn_q,cn_q]
 have e0:n0Q=0:=rfl
 have e1:n1Q=1:=rfl
 have e2:m1Q=-1:=by decide+kernel
 intro i k hi h2 hk
 have hi:i< 4:=hi
 have hk:k< 4:=hk
 show 0< poly.ori (pts (sampS n) i) (pts (sampS n) ((i+1) % 4)) (pts (sampS n) ((i+k) % 4))
 rcases (show (i=0∨i=1∨i=2∨i=3) from by omega) with rfl|rfl|rfl|rfl<;>rcases (show (k=2∨k=3) from by omega) with rfl|rfl<;>
  simp only [Nat.reduceAdd,Nat.reduceMod,p0,p1,p2,p3,poly.ori,e0,e1,e2]<;>grind
theorem ZhV {n:Nat} (h1:1≤n) (h2:n< 256):linkE (sampL n)=0:=by
 have hn:(0:Rat)< (n:Rat):=by
  have:((0:Nat):Rat)< (n:Rat):=Rat.natCast_lt_natCast.2 (by omega)
  exact this
 have s0:smallP (cn n0Q):=ZaK (n:=0) (by omega)
 have s1:smallP (cn n1Q):=ZaK (n:=1) (by omega)
 have s2:smallP (cn n2Q):=ZaK (n:=2) (by omega)
 have s3:smallP (cn m1Q):=Zbv (by decide+kernel) (by decide+kernel)
 have s4:smallP (cn m2Q):=Zbv (by decide+kernel) (by decide+kernel)
 have s5:smallP (cn q4Q):=Zbv (by decide+kernel) (by decide+kernel)
 have s6:smallP (cn q10Q):=Zbv (by decide+kernel) (by decide+kernel)
 have sn:smallP (cn (n:Rat)):=ZaK h2
 have hb:¬ linkBad (sampL n):=by
  rintro(h|h|h|h|h|h|h|h|h)
  ·exact h sn
  ·exact h s4
  ·exact h s2
  ·exact h s5
  ·exact h s6
  ·rw [show (sampL n).len.q=(n:Rat) from cn_q _] at h;exact absurd hn (Rat.not_lt.2 h)
  ·rw [show (sampL n).high.q=n2Q from cn_q _,show (sampL n).low.q=m2Q from cn_q _] at h;exact absurd h (by decide+kernel)
  ·rw [show (sampL n).speed.q=q4Q from cn_q _] at h;exact absurd h (by decide+kernel)
  ·rw [show (sampL n).brake.q=q10Q from cn_q _] at h;exact absurd h (by decide+kernel)
 have hs:¬ shapeBad (sampL n):=by
  rintro⟨p,hp,h⟩
  apply h
  have hp:p∈sampS n:=hp
  simp only [sampS,List.mem_cons,List.not_mem_nil,or_false] at hp
  rcases hp with rfl|rfl|rfl|rfl
  ·exact⟨s0,s3⟩
  ·exact⟨sn,s3⟩
  ·exact⟨sn,s1⟩
  ·exact⟨s0,s1⟩
 unfold linkE
 rw [if_neg hb,if_pos (show convE 8 (sampL n).shape=0 from Zmv h1),if_neg hs]
theorem ZhX {l:List Nat} (h0:l≠ []) (h3:l.length≤3) (h:∀ n,n∈l→1≤n∧n< 256):armE (sampA l)=0:=by
 have s0:smallP (cn n0Q):=ZaK (n:=0) (by omega)
 have hl:(sampA l).links.length=l.length:=List.length_map ..
 have hb:¬ baseBad (sampA l):=by
  rintro(h|h|h|h|h)
  ·rw [hl] at h;exact h0 (List.eq_nil_of_length_eq_zero h)
  ·exact h s0
  ·exact h s0
  ·exact h s0
  ·exact Bool.noConfusion h.1
 unfold armE
 rw [if_pos (show nameOk (sampA l).name=true from(by decide+kernel:nameOk ⟨#[111,110,101]⟩=true)),if_neg (by rw [hl];omega),if_neg hb]
 refine Zct fun j m hm=> ?_
 obtain⟨n,hn,rfl⟩:=List.mem_map.1 (List.mem_of_getElem? hm)
 exact ZhV (h n hn).1 (h n hn).2
theorem Zkh {l:List Nat} (h0:l≠ []) (h3:l.length≤3) (h:∀ n,n∈l→1≤n∧n< 256) {k:Int} (hk:k=(l.length:Int)):hasE (sampA l) k=0:=
 Zff.2 ⟨ZhX h0 h3 h,by rw [hk];show (l.length:Int)=((l.map sampL).length:Int);rw [List.length_map]⟩
theorem ZbD {x:RV} (h:smallP x):x.z≤3:=by
 have len:∀ (s:ByteArray) (m j:Nat),enc (nv s)=s→nv s≤m→m< 256 ^ j→s.size≤j:=by
  intro s m j h1 h2 h3
  rw [← h1]
  exact Zl.2 (by omega)
 have h1:=len x.a 1000000 3 h.1.1 h.2.1 (by decide)
 have h2:=len x.d 1000 2 h.1.2.1 h.2.2 (by decide)
 unfold RV.z
 omega
theorem ZbH {A:ArmV} (hA:armE A=0) {l:LinkV} (hl:l∈A.links):smallP l.len∧smallP l.low∧smallP l.high∧smallP l.speed∧smallP l.brake∧0< l.len.q∧l.low.q< l.high.q∧0< l.speed.q∧0< l.brake.q∧convE 8 l.shape=0∧∀ p,p∈l.shape→smallP p.1∧smallP p.2:=by
 obtain⟨_,_,_,_,_,_,h⟩:=Zfq hA
 obtain⟨h1,h2,h3⟩:=Zia (h l hl)
 simp only [linkBad,not_or,Classical.not_not] at h1
 obtain⟨a1,a2,a3,a4,a5,a6,a7,a8,a9⟩:=h1
 exact⟨a1,a2,a3,a4,a5,Rat.not_le.1 a6,Rat.not_le.1 a7,Rat.not_le.1 a8,Rat.not_le.1 a9,h2,fun p hp=>Classical.byContradiction fun e=>h3 ⟨p,hp,e⟩⟩
theorem ZhW {l:List Nat} (h3:l.length≤3) (h:∀ n,n∈l→1≤n∧n< 256):(sampA l).zs 1000:=by
 have up:∀ {x:RV},smallP x→x.z≤1000:=fun h=>Nat.le_trans (ZbD h) (by decide)
 have s0:smallP (cn n0Q):=ZaK (n:=0) (by omega)
 refine⟨by show (3:Nat)≤1000;omega,up s0,up s0,up s0,by show (l.map sampL).length≤1000;rw [List.length_map];omega,fun m hm=> ?_⟩
 obtain⟨n,hn,rfl⟩:=List.mem_map.1 hm
 obtain⟨h1,h2⟩:=h n hn
 obtain⟨k1,k2,k3⟩:=Zia (ZhV h1 h2)
 simp only [linkBad,not_or,Classical.not_not] at k1
 obtain⟨a1,a2,a3,a4,a5,_⟩:=k1
 exact⟨up a1,up a2,up a3,up a4,up a5,by show (4:Nat)≤1000;omega,fun p hp=>by
  have:=Classical.byContradiction fun e=>k3 ⟨p,hp,e⟩
  exact⟨up this.1,up this.2⟩⟩
end Go.Proofs.YtjlhknppkodilaaGreatDoor.eng
namespace Go.Proofs.YtjlhknppkodilaaGreatDoor.eng
open Go.RowKit num mem seg q held ratA ratB ratC ratD ratE vars ratF natC natD natI sub32
section
variable {K : AV → Prop} {T : TypeId} {ox oy : Operand}
theorem Zmz (T:TypeId) (ox oy:Operand) (x y r:Int) (hy:y≠0) (hr:IntKind.i64.wrap (x.tdiv y)=r) (w:World):(do eqGuard .quo T ox oy (.int .i64 x) (.int .i64 y);binOp .quo T (.int .i64 x) (.int .i64 y):Sem Value).run Tryz.prog w= .ok (.int .i64 r) w:=by
 have hb:Op.intDiv .quo .i64 x y=pure (.int .i64 r):=by
  unfold Op.intDiv
  rw [if_neg hy]
  show pure (Value.int .i64 (IntKind.i64.wrap (x.tdiv y)))=_
  rw [hr]
 rw [eqGuard_quo,binOp_quo,hb]
 rfl
theorem Zpr {x y:Int} (r:Int) (hy:y≠0) (hr:IntKind.i64.wrap (x.tdiv y)=r) (k:K (int r)):AskB .quo T ox oy (.int .i64 x) (.int .i64 y) K:=⟨_,⟨_,rfl,rfl,Zmz T ox oy x y r hy hr⟩,k⟩
theorem ZpN (n:Nat) (h:1≤n):cn ((-(n:Int):Int):Rat)=⟨true,enc n,enc 1⟩:=by
 unfold cn
 rw [Rat.num_intCast,Rat.den_intCast,decide_eq_true (by omega),Int.natAbs_neg]
 rfl
theorem Zf5 (n:Nat) (h1:1≤n) (hn:n< 256):Spec Tryz.prog Tab 40 [int (-(n:Int)),int 1] (rat (cn ((-(n:Int):Int):Rat))):=by
 refine Zf Tryz.func40 rfl rfl Tryz.ntmps40 rfl (by kernel_rfl) rfl rfl ?_
 have hmx:(if IntKind.i64.wrap (0 - -(n:Int)) > -(n:Int) then IntKind.i64.wrap (0 - -(n:Int)) else -(n:Int))=(n:Int):=by
  rw [wrap64 _ (by omega) (by omega)];split<;>omega
 refine⟨Bool,fun s=> [(0,int (-(n:Int))),(1,int 1),(4,.val (.one (.ptr 4 0))),(5,int (bif s then 1 else (n:Int))),(6,int (bif s then 0 else 1))],
  fun s=> [(4,.var 23 [.d (.v (.bool false)),.d (.v (.string ⟨#[]⟩)),.d (.v (.string ⟨#[]⟩))])],fun _=>True,fun s=>bif s then 0 else 1,false,?_,trivial,fun s _=> ?_⟩
 ·constructor<;>(repeat' (first|exact rfl|exact True.intro|apply And.intro))
  all_goals exact congrArg (fun n:Int=>D.v (.int .i64 n)) hmx.symm
 cases s with
 |false=>
  refine⟨fun _=> ?_,fun e=>by simp at e⟩
  refine Zc6 n 1 rfl rfl (by decide) ?_
  refine⟨by kernel_rfl,?_⟩
  refine⟨true,trivial,by simp,?_⟩
  constructor<;>(repeat' (first|exact rfl|exact True.intro|apply And.intro))
  all_goals exact congrArg (fun n:Nat=>D.v (.int .i64 (n:Int))) (show 0=n % 1 by omega)
 |true=>
  refine⟨fun e=>by simp at e,fun _=> ?_⟩
  refine Zpr (x:=-(n:Int)) (y:=1) (-(n:Int)) (by decide) (by show IntKind.i64.wrap ((-(n:Int)).tdiv 1)=_;rw [Int.tdiv_one,wrap64 _ (by omega) (by omega)]) ?_
  refine Zbp 1 1 rfl rfl (by decide) (by omega) ?_
  refine⟨by kernel_rfl,?_⟩
  refine ZbI n hmx hn ?_
  refine ZbI 1 rfl (by decide) ?_
  refine Eq.trans (b:=rat ⟨decide (-(n:Int)< 0),enc n,enc 1⟩) ?_ rfl
  rw [ZpN n h1,decide_eq_true (by omega)]
theorem Zf6 (d:Nat) (q:Rat) (h1:2≤d) (hd:d< 256) (hq:cn q=⟨false,enc 1,enc d⟩):Spec Tryz.prog Tab 40 [int 1,int (d:Int)] (rat (cn q)):=by
 refine Zf Tryz.func40 rfl rfl Tryz.ntmps40 rfl (by kernel_rfl) rfl rfl ?_
 refine⟨Fin 3,fun s=> [(0,int 1),(1,int (d:Int)),(4,.val (.one (.ptr 4 0))),(5,int (match s with|0=>1|1=>(d:Int)|2=>1)),(6,int (match s with|0=>(d:Int)|1=>1|2=>0))],
  fun s=> [(4,.var 23 [.d (.v (.bool false)),.d (.v (.string ⟨#[]⟩)),.d (.v (.string ⟨#[]⟩))])],fun _=>True,fun s=>2 - s.val,0,?_,trivial,fun s _=> ?_⟩
 ·constructor<;>(repeat' (first|exact rfl|exact True.intro|apply And.intro))
  all_goals exact congrArg (fun n:Int=>D.v (.int .i64 n)) (by decide)
 match s with
 |0=>
  refine⟨fun _=> ?_,fun e=>absurd e (by simp;omega)⟩
  refine Zc6 1 d rfl rfl (by omega) ?_
  refine⟨by kernel_rfl,?_⟩
  refine⟨1,trivial,by decide,?_⟩
  constructor<;>(repeat' (first|exact rfl|exact True.intro|apply And.intro))
  all_goals exact congrArg (fun n:Nat=>D.v (.int .i64 (n:Int))) (show 1=1 % d from(Nat.mod_eq_of_lt (by omega)).symm)
 |1=>
  refine⟨fun _=> ?_,fun e=>absurd e (by show ¬ decide ((1:Int) >0)=false;decide)⟩
  refine Zc6 d 1 rfl rfl (by decide) ?_
  refine⟨by kernel_rfl,?_⟩
  refine⟨2,trivial,by decide,?_⟩
  constructor<;>(repeat' (first|exact rfl|exact True.intro|apply And.intro))
  all_goals exact congrArg (fun n:Nat=>D.v (.int .i64 (n:Int))) (show 0=d % 1 by omega)
 |2=>
  refine⟨fun e=>absurd e (by show ¬ decide ((0:Int) >0)=true;decide),fun _=> ?_⟩
  refine Zbp 1 1 rfl rfl (by decide) (by omega) ?_
  refine Zbp d 1 rfl rfl (by decide) (by omega) ?_
  refine⟨by kernel_rfl,?_⟩
  refine ZbI 1 (by decide) (by decide) ?_
  refine ZbI d (by rw [Nat.div_one]) hd ?_
  refine Eq.trans (b:=rat ⟨decide (((1 / 1:Nat):Int)< 0),enc 1,enc d⟩) ?_ rfl
  rw [hq,decide_eq_false (by decide)]
theorem Zqc:cn q4Q=⟨false,enc 1,enc 4⟩:=by
 unfold cn
 rw [show q4Q.num=1 by decide+kernel,show q4Q.den=4 by decide+kernel]
 rfl
theorem ZpM:cn q10Q=⟨false,enc 1,enc 10⟩:=by
 unfold cn
 rw [show q10Q.num=1 by decide+kernel,show q10Q.den=10 by decide+kernel]
 rfl
theorem Zf0 {m d:Int} {q:Rat} (h:Spec Tryz.prog Tab 40 [int m,int d] (rat (cn q))):Spec Tryz.prog Tab 18 [int m,int d] (rat (cn q)):=by
 refine Zf Tryz.func18 rfl rfl Tryz.ntmps18 rfl (by kernel_rfl) rfl rfl ?_
 refine use h rfl ?_
 exact rfl
def NumIs (m:Int) (q:Rat):Prop:=Spec Tryz.prog Tab 18 [int m,int 1] (rat (cn q))
theorem ZcN (n:Nat) (h:n< 256):NumIs (n:Int) (n:Rat):=Zf0 (Zh9 n h)
theorem ZkT:NumIs 0 n0Q:=ZcN 0 (by decide)
theorem Zpm:NumIs 1 n1Q:=ZcN 1 (by decide)
theorem Zp4:NumIs 2 n2Q:=ZcN 2 (by decide)
theorem ZnG:NumIs (-1) m1Q:=Zf0 (Zf5 1 (by decide) (by decide))
theorem Zpk:NumIs (-2) m2Q:=Zf0 (Zf5 2 (by decide) (by decide))
theorem Zp3:Spec Tryz.prog Tab 18 [int 1,int 4] (rat (cn q4Q)):=Zf0 (Zf6 4 q4Q (by decide) (by decide) Zqc)
theorem Zpl:Spec Tryz.prog Tab 18 [int 1,int 10] (rat (cn q10Q)):=Zf0 (Zf6 10 q10Q (by decide) (by decide) ZpM)
theorem ZkH {x y:Int} {p q:Rat} (hx:NumIs x p) (hy:NumIs y q):Spec Tryz.prog Tab 17 [int x,int y] (pair (cn p) (cn q)):=by
 refine Zf Tryz.func17 rfl rfl Tryz.ntmps17 rfl (by kernel_rfl) rfl rfl ?_
 refine use hx rfl ?_
 refine use hy rfl ?_
 exact rfl
end
end Go.Proofs.YtjlhknppkodilaaGreatDoor.eng
namespace Go.Proofs.YtjlhknppkodilaaGreatDoor.eng
open Go.RowKit num mem seg q held ratA ratB ratC ratD ratE vars ratF
section
variable {K : AV → Prop}
def ni (n:Nat):List D:= [D.v (.int .i64 (n:Int))]
theorem Ze7 {A:ArmV} {B:Nat} (h:A.zs B) (hB:B≤67108864):A.ok:=by
 obtain⟨h1,h2,h3,h4,h5,h6⟩:=h
 refine⟨by omega,by omega,by omega,by omega,by omega,fun l hl=> ?_⟩
 obtain⟨a1,a2,a3,a4,a5,a6,a7⟩:=h6 l hl
 exact⟨by omega,by omega,by omega,by omega,by omega,by omega,fun p hp=>by have:=a7 p hp;omega⟩
theorem Zkg {l:List Nat} {i n:Nat} (h:l[i]? =some n):List.map lk ((l.take (i+1)).map sampL)=List.map lk ((l.take i).map sampL)++ [lk (sampL n)]:=by
 rw [List.take_add_one,h];simp
set_option maxHeartbeats 8000000 in
theorem ZgW (l:List Nat) (hl:∀ n,n∈l→1≤n∧n< 256) (h3:l.length≤3):Spec Tryz.prog Tab 5 [.val (.one (.d (.list (List.map ni l))))] (.val (.agg [.d (.v (.string ((sampA l).name))),.d (.v (.bool ((sampA l).bx).s)),.d (.v (.string ((sampA l).bx).a)),.d (.v (.string ((sampA l).bx).d)),.d (.v (.bool ((sampA l).by').s)),.d (.v (.string ((sampA l).by').a)),.d (.v (.string ((sampA l).by').d)),.d (.v (.bool ((sampA l).bh))),.d (.v (.bool ((sampA l).bt).s)),.d (.v (.string ((sampA l).bt).a)),.d (.v (.string ((sampA l).bt).d)),.d (.list (List.map lk ((sampA l).links)))])):=by
 have hL:(List.map ni l).length=l.length:=List.length_map ..
 refine Zf Tryz.func5 rfl rfl Tryz.ntmps5 rfl (by kernel_rfl) rfl rfl ?_
 refine use (ZkH ZkT ZkT) rfl ?_
 refine use (ZkT) rfl ?_
 refine⟨Nat,fun i=> [(2,.val (.one (.ptr 2 0))),(3,.val (.one (.ptr 3 0))),(11,.val (.one (.d (.list (List.map ni l))))),(12,int ((List.map ni l).length:Int)),(13,int (i:Int))],
  fun i=> [(2,.var 32 [.d (.v (.string ⟨#[]⟩)),.d (.v (.bool z0.s)),.d (.v (.string z0.a)),.d (.v (.string z0.d)),.d (.v (.bool z0.s)),.d (.v (.string z0.a)),.d (.v (.string z0.d)),.d (.v (.bool false)),.d (.v (.bool z0.s)),.d (.v (.string z0.a)),.d (.v (.string z0.d)),.d (.v (.slice none 0 0))]),(3,.var 32 [.d (.v (.string (ByteArray.mk #[111,110,101]))),.d (.v (.bool (cn n0Q).s)),.d (.v (.string (cn n0Q).a)),.d (.v (.string (cn n0Q).d)),.d (.v (.bool (cn n0Q).s)),.d (.v (.string (cn n0Q).a)),.d (.v (.string (cn n0Q).d)),.d (.v (.bool false)),.d (.v (.bool (cn n0Q).s)),.d (.v (.string (cn n0Q).a)),.d (.v (.string (cn n0Q).d)),.row 34 0]),(34,.row 49 16 0 (List.map lk ((l.take i).map sampL)) true)],fun i=>i≤l.length,fun i=>l.length - i,0,?_,Nat.zero_le _,fun i hs=> ?_⟩
 ·constructor<;>(repeat' (first|exact rfl|exact True.intro|exact⟨_,_,rfl⟩|exact(by decide)|apply And.intro))
  all_goals first|exact congrArg (fun n:Int=>D.v (.int .i64 n)) (by omega)|exact congrArg (fun n:Int=>D.v (.int .i64 n)) (by rw [wrap64 _ (by omega) (by omega)];omega)|(simp;done)
 have hT:(List.map lk ((l.take i).map sampL)).length≤3:=by simp only [List.length_map,List.length_take];omega
 refine⟨fun e1=> ?_,fun e1=> ?_⟩
 ·have f14:(i:Int)< ((List.map ni l).length:Int):=of_decide_eq_true e1
  obtain⟨x15,hx15⟩:∃ vv,l[i]? =some vv:=⟨_,List.getElem?_eq_getElem (by first|omega|exact Nat.mod_lt _ (by omega))⟩
  have hzx15:=hl x15 (List.mem_of_getElem? hx15)
  refine k_ix i [D.v (.int .i64 ((x15:Int)))] (by first|rfl|omega|(rw [wrap64 _ (by omega) (by omega)];omega)) (Zm hx15) rfl ?_
  refine use ((ZcN x15 (by omega))) rfl ?_
  refine use (Zpk) rfl ?_
  refine use (Zp4) rfl ?_
  refine use (Zp3) rfl ?_
  refine use (Zpl) rfl ?_
  refine use (ZkH ZkT ZnG) rfl ?_
  refine use (ZkH (ZcN x15 (by omega)) ZnG) rfl ?_
  refine use (ZkH (ZcN x15 (by omega)) Zpm) rfl ?_
  refine use (ZkH ZkT Zpm) rfl ?_
  refine⟨⟨row1 rfl,(by show ((List.map lk ((l.take i).map sampL)).length+1)*224≤_;omega),(by show ((List.map lk ((l.take i).map sampL)).length+1)≤_;omega)⟩,?_⟩
  refine⟨by kernel_rfl,?_⟩
  refine⟨i+1,by omega,by simp only;omega,?_⟩
  constructor<;>(repeat' (first|exact rfl|exact True.intro|apply And.intro))
  all_goals first
   |(rw [Zkg hx15];rfl)
   |exact congrArg (fun n:Int=>D.v (.int .i64 n)) (by rw [wrap64 _ (by omega) (by omega)];omega)
   |exact congrArg (fun n:Int=>D.v (.int .i64 n)) (by omega)
 ·have f14:¬ ((i:Int)< ((List.map ni l).length:Int)):=of_decide_eq_false e1
  refine Eq.trans (b:= .val (.agg [.d (.v (.string (ByteArray.mk #[111,110,101]))),.d (.v (.bool (cn n0Q).s)),.d (.v (.string (cn n0Q).a)),.d (.v (.string (cn n0Q).d)),.d (.v (.bool (cn n0Q).s)),.d (.v (.string (cn n0Q).a)),.d (.v (.string (cn n0Q).d)),.d (.v (.bool false)),.d (.v (.bool (cn n0Q).s)),.d (.v (.string (cn n0Q).a)),.d (.v (.string (cn n0Q).d)),.d (.list (List.map lk ((l.take i).map sampL)))])) ?_ rfl
  rw [List.take_of_length_le (by omega)];rfl
theorem Zm9 (l:List Nat) {vv:List (List D)} (hv:vv=List.map ni l) (hl:∀ n,n∈l→1≤n∧n< 256) (h3:l.length≤3) (k:K (arm (sampA l))):Ask 5 [.val (.one (.d (.list vv)))] K:=by
 subst hv;exact use (ZgW l hl h3) rfl k
def natRV (l:List Nat):List RV:=l.map fun n:Nat=>cn (n:Rat)
theorem Zop {l:List Nat} (h:∀ n,n∈l→n< 256):∀ x,x∈natRV l→x.z≤3:=by
 intro x hx
 obtain⟨n,hn,rfl⟩:=List.mem_map.1 hx
 exact ZbD (ZaK (h n hn))
theorem Zhh (l:List Nat) {vv:List (List D)} (hv:vv=List.map ni l) (hl:∀ n,n∈l→n< 256) (hn:l.length≤1024) (k:K (.val (.one (.d (.list (List.map rd (natRV l))))))):Ask 6 [.val (.one (.d (.list vv)))] K:=by
 subst hv
 refine use (ZkR l hl hn) rfl ?_
 have:(rats (natL l))= .val (.one (.d (.list (List.map rd (natRV l))))):=by
  show AV.val (.one (.d (.list (RL (natL l)))))=_
  rw [show RL (natL l)=List.map rd (natRV l) from by simp [RL,natL,natRV,List.map_map,Function.comp]]
 rw [this];exact k
end
end Go.Proofs.YtjlhknppkodilaaGreatDoor.eng
