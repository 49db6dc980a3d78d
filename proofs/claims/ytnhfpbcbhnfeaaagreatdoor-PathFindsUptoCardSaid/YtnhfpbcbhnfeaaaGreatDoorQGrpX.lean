/- Joined by wip/bundle.py: XSamp0 XSampN XSampA. -/
import Derived.Test.YtnhfpbcbhnfeaaaGreatDoorQGrpO
import Derived.Test.YtnhfpbcbhnfeaaaGreatDoorQArmA
set_option maxRecDepth 100000
namespace Go.Proofs.YtnhfpbcbhnfeaaaGreatDoor.eng
open Go.RowKit num mem seg q held ratA ratB ratC ratD ratE vars ratF
theorem Zb7{q:Rat}(h1:q.num.natAbs<=1000000)(h2:q.den<=1000):smallP (cn q):=
 ⟨Zkb q,by show nv (enc q.num.natAbs)<=_;rw[Ze];exact h1,by show nv (enc q.den)<=_;rw[Ze];exact h2⟩
def m1Q:Rat:=((-1:Int):Rat)
def m2Q:Rat:=((-2:Int):Rat)
def n1Q:Rat:=((1:Nat):Rat)
def n0Q:Rat:=((0:Nat):Rat)
def n2Q:Rat:=((2:Nat):Rat)
def q4Q:Rat:=((1:Int):Rat)/((4:Int):Rat)
def q10Q:Rat:=((1:Int):Rat)/((10:Int):Rat)
def sampS(n:Nat):List (RV×RV):=[(cn n0Q,cn m1Q),(cn (n:Rat),cn m1Q),(cn (n:Rat),cn n1Q),(cn n0Q,cn n1Q)]
def sampL(n:Nat):LinkV:=⟨cn (n:Rat),cn m2Q,cn n2Q,cn q4Q,cn q10Q,sampS n⟩
def sampA(l:List Nat):ArmV:=⟨⟨#[111,110,101]⟩,cn n0Q,cn n0Q,false,cn n0Q,l.map sampL⟩
theorem ZbD{n:Nat}(h:n<256):smallP (cn (n:Rat)):=Zb7 (by rw[Rat.num_natCast];omega) (by rw[Rat.den_natCast];omega)
theorem Zsy{n:Nat}(h1:1<=n):convE 8 (sampS n)=0:=by
 refine ZaV.2 ⟨by show ¬(8:Int)<((4:Nat):Int);omega,by show ¬(4:Nat)<3;omega,?_⟩;have hn:(0:Rat)<(n:Rat):=by
  have:((0:Nat):Rat)<(n:Rat):=Rat.natCast_lt_natCast.2 ω;exact this
 have p0:pts (sampS n) 0=(n0Q,m1Q):=by rw[Zat (p:=(cn n0Q,cn m1Q)) rfl,cn_q,cn_q]
 have p1:pts (sampS n) 1=((n:Rat),m1Q):=by rw[Zat (p:=(cn (n:Rat),cn m1Q)) rfl,cn_q,cn_q]
 have p2:pts (sampS n) 2=((n:Rat),n1Q):=by rw[Zat (p:=(cn (n:Rat),cn n1Q)) rfl,cn_q,cn_q]
 have p3:pts (sampS n) 3=(n0Q,n1Q):=by rw[Zat (p:=(cn n0Q,cn n1Q)) rfl,cn_q,cn_q]
 have e0:n0Q=0:=rfl;have e1:n1Q=1:=rfl;have e2:m1Q=-1:=by decide+kernel
 intro i k hi h2 hk;have hi:i<4:=hi;have hk:k<4:=hk;show 0<poly.ori (pts (sampS n) i) (pts (sampS n) ((i+1)%4)) (pts (sampS n) ((i+k)%4));rcases (show (i=0\/i=1\/i=2\/i=3) from by omega) with rfl|rfl|rfl|rfl<;>rcases (show (k=2\/k=3) from by omega) with rfl|rfl<;>
  simp only[Nat.reduceAdd,Nat.reduceMod,p0,p1,p2,p3,poly.ori,e0,e1,e2]<;>grind
theorem ZkZ{n:Nat}(h1:1<=n)(h2:n<256):linkE (sampL n)=0:=by
 have hn:(0:Rat)<(n:Rat):=by
  have:((0:Nat):Rat)<(n:Rat):=Rat.natCast_lt_natCast.2 ω;exact this
 have s0:smallP (cn n0Q):=ZbD (n:=0) ω;have s1:smallP (cn n1Q):=ZbD (n:=1) ω;have s2:smallP (cn n2Q):=ZbD (n:=2) ω;have s3:smallP (cn m1Q):=Zb7 ωk ωk;have s4:smallP (cn m2Q):=Zb7 ωk ωk;have s5:smallP (cn q4Q):=Zb7 ωk ωk;have s6:smallP (cn q10Q):=Zb7 ωk ωk;have sn:smallP (cn (n:Rat)):=ZbD h2;have hb:¬linkBad (sampL n):=by
  rintro(h|h|h|h|h|h|h|h|h)
  .exact h sn
  .exact h s4
  .exact h s2
  .exact h s5
  .exact h s6
  .rw[show (sampL n).len.q=(n:Rat) from cn_q _]at h;exact absurd hn (Rat.not_lt.2 h)
  .rw[show (sampL n).high.q=n2Q from cn_q _,show (sampL n).low.q=m2Q from cn_q _]at h;exact absurd h ωk
  .rw[show (sampL n).speed.q=q4Q from cn_q _]at h;exact absurd h ωk
  .rw[show (sampL n).brake.q=q10Q from cn_q _]at h;exact absurd h ωk
 have hs:¬shapeBad (sampL n):=by
  rintro⟨p,hp,h⟩;apply h;have hp:p∈sampS n:=hp;simp only[sampS,List.mem_cons,List.not_mem_nil,or_false]at hp;rcases hp with rfl|rfl|rfl|rfl
  .exact⟨s0,s3⟩
  .exact⟨sn,s3⟩
  .exact⟨sn,s1⟩
  .exact⟨s0,s1⟩
 unfold linkE;rw[if_neg hb,if_pos (show convE 8 (sampL n).shape=0 from Zsy h1),if_neg hs]
theorem ZsA{l:List Nat}(h0:l≠ [])(h3:l.length<=3)(h:∀n,n∈l->1<=n/\n<256):armE (sampA l)=0:=by
 have s0:smallP (cn n0Q):=ZbD (n:=0) ω;have hl:(sampA l).links.length=l.length:=List.length_map ..;have hb:¬baseBad (sampA l):=by
  rintro(h|h|h|h|h)
  .rw[hl]at h;exact h0 (List.eq_nil_of_length_eq_zero h)
  .exact h s0
  .exact h s0
  .exact h s0
  .exact Bool.noConfusion h.1
 unfold armE;rw[if_pos (show nameOk (sampA l).name=true from(by decide+kernel:nameOk ⟨#[111,110,101]⟩=true)),if_neg (by rw[hl];omega),if_neg hb];refine Zep fun j m hm=>?_;obtain⟨n,hn,rfl⟩:=List.mem_map.1 (mG hm);exact ZkZ (h n hn).1 (h n hn).2
theorem ZM{x:RV}(h:smallP x):x.z<=3:=by
 have len:∀(s:ByteArray)(m j:Nat),enc (nv s)=s->nv s<=m->m<256^j->s.size<=j:=by
  intro s m j h1 h2 h3;rw[<-h1];exact Zh.2 ω
 have h1:=len x.a 1000000 3 h.1.1 h.2.1 ωd;have h2:=len x.d 1000 2 h.1.2.1 h.2.2 ωd;unfold RV.z;omega
theorem ZK{A:ArmV}(hA:armE A=0){l:LinkV}(hl:l∈A.links):smallP l.len/\smallP l.low/\smallP l.high/\smallP l.speed/\smallP l.brake/\0<l.len.q/\l.low.q<l.high.q/\0<l.speed.q/\0<l.brake.q/\convE 8 l.shape=0/\∀p,p∈l.shape->smallP p.1/\smallP p.2:=by
 obtain⟨_,_,_,_,_,_,h⟩:=Zy hA;obtain⟨h1,h2,h3⟩:=Zlr (h l hl);simp only[linkBad,not_or,Classical.not_not]at h1;obtain⟨a1,a2,a3,a4,a5,a6,a7,a8,a9⟩:=h1;exact⟨a1,a2,a3,a4,a5,Rat.not_le.1 a6,Rat.not_le.1 a7,Rat.not_le.1 a8,Rat.not_le.1 a9,h2,fun p hp=>Classical.byContradiction fun e=>h3 ⟨p,hp,e⟩⟩
theorem Zsz{l:List Nat}(h3:l.length<=3)(h:∀n,n∈l->1<=n/\n<256):(sampA l).zs 1000:=by
 have up:∀{x:RV},smallP x->x.z<=1000:=fun h=>Nat.le_trans (ZM h) ωd;have s0:smallP (cn n0Q):=ZbD (n:=0) ω;refine⟨by show (3:Nat)<=1000;omega,up s0,up s0,up s0,by show (l.map sampL).length<=1000;rw[List.length_map];omega,fun m hm=>?_⟩;obtain⟨n,hn,rfl⟩:=List.mem_map.1 hm;obtain⟨h1,h2⟩:=h n hn;obtain⟨k1,k2,k3⟩:=Zlr (ZkZ h1 h2);simp only[linkBad,not_or,Classical.not_not]at k1;obtain⟨a1,a2,a3,a4,a5,_⟩:=k1;exact⟨up a1,up a2,up a3,up a4,up a5,by show (4:Nat)<=1000;omega,fun p hp=>by
  have:=Classical.byContradiction fun e=>k3 ⟨p,hp,e⟩;exact⟨up this.1,up this.2⟩⟩
open Go.RowKit num mem seg q held ratA ratB ratC ratD ratE vars ratF natC natD natI sub32
section
variable{K:AV->Prop}{T:TypeId}{ox oy:Operand}
theorem ZsH(T:TypeId)(ox oy:Operand)(x y r:Int)(hy:y≠0)(hr:IntKind.i64.wrap (x.tdiv y)=r)(w:World):(do eqGuard .quo T ox oy (.int .i64 x) (.int .i64 y);binOp .quo T (.int .i64 x) (.int .i64 y):Sem Value).run Tryz.prog w= .ok (.int .i64 r) w:=by
 have hb:Op.intDiv .quo .i64 x y=pure (.int .i64 r):=by
  unfold Op.intDiv;rw[if_neg hy];show pure (Value.int .i64 (IntKind.i64.wrap (x.tdiv y)))=_;rw[hr]
 rw[eqGuard_quo,binOp_quo,hb];rfl
theorem ZyK{x y:Int}(r:Int)(hy:y≠0)(hr:IntKind.i64.wrap (x.tdiv y)=r)(k:K (int r)):AskB .quo T ox oy (.int .i64 x) (.int .i64 y) K:=⟨_,⟨_,rfl,rfl,ZsH T ox oy x y r hy hr⟩,k⟩
theorem Zzg(n:Nat)(h:1<=n):cn ((-(n:Int):Int):Rat)=⟨true,enc n,enc 1⟩:=by
 unfold cn;rw[Rat.num_intCast,Rat.den_intCast,decide_eq_true ω,Int.natAbs_neg];rfl
theorem Zis(n:Nat)(h1:1<=n)(hn:n<256):Spec Tryz.prog Tab 83 [int (-(n:Int)),int 1] (rat (cn ((-(n:Int):Int):Rat))):=by
 refine Zb Tryz.func83 Tryz.ntmps83 ?_;have hmx:(if IntKind.i64.wrap (0 - -(n:Int)) > -(n:Int) then IntKind.i64.wrap (0 - -(n:Int)) else -(n:Int))=(n:Int):=by
  rw[wrap64 _ ω ω];split<;>omega
 refine⟨Bool,fun s=>[(0,int (-(n:Int))),(1,int 1),(4,.val (.one (.ptr 4 0))),(5,int (bif s then 1 else (n:Int))),(6,int (bif s then 0 else 1))],
  fun s=>[(4,.var 23 [.d (.v (.bool false)),.d (.v (.string ⟨#[]⟩)),.d (.v (.string ⟨#[]⟩))])],fun _=>True,fun s=>bif s then 0 else 1,false,?_,trivial,fun s _=>?_⟩
 .exact ωE
 cases s with
 |false=>
  refine⟨fun _=> Zd3 n 1 rfl rfl ωd ⟨ωr,⟨true,trivial,by simp,?_⟩⟩,fun e=>by simp at e⟩;constructor<;>(repeat' apply And.intro)<;>first|exact ωq|exact congrArg (fun n:Nat=>D.v (.int .i64 (n:Int))) (show 0=n%1 by omega)
 |true=>
  refine⟨fun e=>by simp at e,fun _=> ZyK (x:=-(n:Int)) (y:=1) (-(n:Int)) ωd (by show IntKind.i64.wrap ((-(n:Int)).tdiv 1)=_;rw[Int.tdiv_one,wrap64 _ ω ω])<|Zb0 1 1 rfl rfl ωd ω ⟨ωr,Zct n hmx hn<|Zct 1 rfl ωd<|Eq.trans (b:=rat ⟨decide (-(n:Int)<0),enc n,enc 1⟩) ?_ rfl⟩⟩;rw[Zzg n h1,decide_eq_true ω]
theorem Zit(d:Nat)(q:Rat)(h1:2<=d)(hd:d<256)(hq:cn q=⟨false,enc 1,enc d⟩):Spec Tryz.prog Tab 83 [int 1,int (d:Int)] (rat (cn q)):=by
 refine Zb Tryz.func83 Tryz.ntmps83 ?_;refine⟨Fin 3,fun s=>[(0,int 1),(1,int (d:Int)),(4,.val (.one (.ptr 4 0))),(5,int (match s with|0=>1|1=>(d:Int)|2=>1)),(6,int (match s with|0=>(d:Int)|1=>1|2=>0))],
  fun s=>[(4,.var 23 [.d (.v (.bool false)),.d (.v (.string ⟨#[]⟩)),.d (.v (.string ⟨#[]⟩))])],fun _=>True,fun s=>2-s.val,0,?_,trivial,fun s _=>?_⟩
 .constructor<;>(repeat' apply And.intro)<;>first|exact ωq|exact congrArg (fun n:Int=>D.v (.int .i64 n)) ωd
 match s with
 |0=>
  refine⟨fun _=> Zd3 1 d rfl rfl ω ⟨ωr,⟨1,trivial,ωd,?_⟩⟩,fun e=>absurd e (by simp;omega)⟩;constructor<;>(repeat' apply And.intro)<;>first|exact ωq|exact congrArg (fun n:Nat=>D.v (.int .i64 (n:Int))) (show 1=1%d from(Nat.mod_eq_of_lt ω).symm)
 |1=>
  refine⟨fun _=> Zd3 d 1 rfl rfl ωd ⟨ωr,⟨2,trivial,ωd,?_⟩⟩,fun e=>absurd e (by show ¬decide ((1:Int) >0)=false;decide)⟩;constructor<;>(repeat' apply And.intro)<;>first|exact ωq|exact congrArg (fun n:Nat=>D.v (.int .i64 (n:Int))) (show 0=d%1 by omega)
 |2=>
  refine⟨fun e=>absurd e (by show ¬decide ((0:Int) >0)=true;decide),fun _=> Zb0 1 1 rfl rfl ωd ω<|Zb0 d 1 rfl rfl ωd ω ⟨ωr,Zct 1 ωd ωd<|Zct d (by rw[Nat.div_one]) hd<|Eq.trans (b:=rat ⟨decide (((1/1:Nat):Int)<0),enc 1,enc d⟩) ?_ rfl⟩⟩;rw[hq,decide_eq_false ωd]
theorem ZzZ:cn q4Q=⟨false,enc 1,enc 4⟩:=by
 unfold cn;rw[show q4Q.num=1 by decide+kernel,show q4Q.den=4 by decide+kernel];rfl
theorem Zzf:cn q10Q=⟨false,enc 1,enc 10⟩:=by
 unfold cn;rw[show q10Q.num=1 by decide+kernel,show q10Q.den=10 by decide+kernel];rfl
theorem Zip{m d:Int}{q:Rat}(h:Spec Tryz.prog Tab 83 [int m,int d] (rat (cn q))):Spec Tryz.prog Tab 39 [int m,int d] (rat (cn q)):=by
 refine Zb Tryz.func39 Tryz.ntmps39 ?_;exact use h rfl rfl
def NumIs(m:Int)(q:Rat):Prop:=Spec Tryz.prog Tab 39 [int m,int 1] (rat (cn q))
theorem ZdF(n:Nat)(h:n<256):NumIs (n:Int) (n:Rat):=Zip (Ztl n h)
theorem ZpA:NumIs 0 n0Q:=ZdF 0 ωd
theorem Zyr:NumIs 1 n1Q:=ZdF 1 ωd
theorem Zyp:NumIs 2 n2Q:=ZdF 2 ωd
theorem Zva:NumIs (-1) m1Q:=Zip (Zis 1 ωd ωd)
theorem Zu9:NumIs (-2) m2Q:=Zip (Zis 2 ωd ωd)
theorem ZzL:Spec Tryz.prog Tab 39 [int 1,int 4] (rat (cn q4Q)):=Zip (Zit 4 q4Q ωd ωd ZzZ)
theorem Zyq:Spec Tryz.prog Tab 39 [int 1,int 10] (rat (cn q10Q)):=Zip (Zit 10 q10Q ωd ωd Zzf)
theorem Zpn{x y:Int}{p q:Rat}(hx:NumIs x p)(hy:NumIs y q):Spec Tryz.prog Tab 38 [int x,int y] (pair (cn p) (cn q)):=by
 refine Zb Tryz.func38 Tryz.ntmps38 ?_;exact use hx rfl<|use hy rfl rfl
end
section
variable{K:AV->Prop}
def ni(n:Nat):List D:=[D.v (.int .i64 (n:Int))]
theorem Zle{A:ArmV}{B:Nat}(h:A.zs B)(hB:B<=67108864):A.ok:=by
 obtain⟨h1,h2,h3,h4,h5,h6⟩:=h;refine⟨ω,ω,ω,ω,ω,fun l hl=>?_⟩;obtain⟨a1,a2,a3,a4,a5,a6,a7⟩:=h6 l hl;exact⟨ω,ω,ω,ω,ω,ω,fun p hp=>by have:=a7 p hp;omega⟩
theorem ZoL{l:List Nat}{i n:Nat}(h:l[i]? =some n):List.map lk ((l.take (i+1)).map sampL)=List.map lk ((l.take i).map sampL)++[lk (sampL n)]:=by
 rw[List.take_add_one,h];simp
set_option maxHeartbeats 8000000 in
theorem Zjw(l:List Nat)(hl:∀n,n∈l->1<=n/\n<256)(h3:l.length<=3):Spec Tryz.prog Tab 10 [Xl ni l] (.val (.agg (.d (.v (.string ((sampA l).name)))::(X1 ((sampA l).bx)<|X1 ((sampA l).by') (.d (.v (.bool ((sampA l).bh)))::(X1 ((sampA l).bt) [.d (.list (((sampA l).links).map lk))])))))):=by
 have hL:(l.map ni).length=l.length:=List.length_map ..;refine Zb Tryz.func10 Tryz.ntmps10 ?_;refine use (Zpn ZpA ZpA) rfl ?_;refine use (ZpA) rfl ?_;refine⟨Nat,fun i=>[(2,.val (.one (.ptr 2 0))),(3,.val (.one (.ptr 3 0))),(11,Xl ni l),(12,int ((l.map ni).length:Int)),(13,int (i:Int))],
  fun i=>[(2,.var 32 (.d (.v (.string ⟨#[]⟩))::(X1 z0<|X1 z0 (.d (.v (.bool false))::(X1 z0 [.d (.v (.slice none 0 0))]))))),(3,.var 32 (.d (.v (.string (ByteArray.mk #[111,110,101])))::(X1 (cn n0Q)<|X1 (cn n0Q) (.d (.v (.bool false))::(X1 (cn n0Q) [.row 34 0]))))),(34,.row 56 16 0 (((l.take i).map sampL).map lk) true)],fun i=>i<=l.length,fun i=>l.length-i,0,?_,Nat.zero_le _,fun i hs=>?_⟩
 .exact ωe
 have hT:(((l.take i).map sampL).map lk).length<=3:=by simp only[List.length_map,List.length_take];omega
 refine⟨fun e1=>?_,fun e1=>?_⟩
 .have a1:(i:Int)<((l.map ni).length:Int):=oT e1;obtain⟨x15,a0⟩:∃vv,l[i]? =some vv:=⟨_,gE ωm⟩;have hzx15:=hl x15 (mG a0);refine k_ix i _ ωh (Zd a0) rfl<|use ((ZdF x15 ω)) rfl<|use (Zu9) rfl<|use (Zyp) rfl<|use (ZzL) rfl<|use (Zyq) rfl<|use (Zpn ZpA Zva) rfl<|use (Zpn (ZdF x15 ω) Zva) rfl<|use (Zpn (ZdF x15 ω) Zyr) rfl<|use (Zpn ZpA Zyr) rfl ⟨⟨row1 rfl,(by show ((((l.take i).map sampL).map lk).length+1)*224<=_;omega),(by show ((((l.take i).map sampL).map lk).length+1)<=_;omega)⟩,⟨ωr,⟨i+1,ω,by simp only;omega,?_⟩⟩⟩;constructor<;>(repeat' apply And.intro)<;>first|exact ωq|(rw[ZoL a0];rfl)
 .have a1:¬((i:Int)<((l.map ni).length:Int)):=oF e1;refine Eq.trans (b:=.val (.agg (.d (.v (.string (ByteArray.mk #[111,110,101])))::(X1 (cn n0Q)<|X1 (cn n0Q) (.d (.v (.bool false))::(X1 (cn n0Q) [.d (.list (((l.take i).map sampL).map lk))])))))) ?_ rfl;rw[List.take_of_length_le ω];rfl
theorem ZtB(l:List Nat){vv:List (List D)}(hv:vv=List.map ni l)(hl:∀n,n∈l->1<=n/\n<256)(h3:l.length<=3)(k:K (arm (sampA l))):Ask 10 [.val (.one (.d (.list vv)))] K:=by
 subst hv;exact use (Zjw l hl h3) rfl k
end
