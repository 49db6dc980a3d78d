/- Joined by wip/bundle.py: XShb0 XShbA XShbR. -/
import Derived.Test.YtnhfpbcbhnfeaaaGreatDoorQGrpR
set_option maxHeartbeats 4000000
set_option maxRecDepth 100000
open List (mem_of_getElem? range length_map)
namespace Go.Proofs.YtnhfpbcbhnfeaaaGreatDoor.eng
open Go.RowKit num mem seg q held ratA ratB ratC ratD ratE vars ratF trq
structure B4 where
 xl:Rat
 xh:Rat
 yl:Rat
 yh:Rat
def B4.le(b:B4):Prop:=b.xl<=b.xh/\b.yl<=b.yh
def B4.z(b:B4)(B:Nat):Prop:=(qs b.xl<=B/\qs b.xh<=B)/\qs b.yl<=B/\qs b.yh<=B
def atB(f:LF)(v:RV×RV):B4:=
 ⟨f.xl+(mulLo v.1.q v.1.q f.cl f.ch-mulHi v.2.q v.2.q f.sl f.sh),f.xh+(mulHi v.1.q v.1.q f.cl f.ch-mulLo v.2.q v.2.q f.sl f.sh),
  f.yl+(mulLo v.1.q v.1.q f.sl f.sh+mulLo v.2.q v.2.q f.cl f.ch),f.yh+(mulHi v.1.q v.1.q f.sl f.sh+mulHi v.2.q v.2.q f.cl f.ch)⟩
def joinB(a b:B4):B4:=⟨minQ a.xl b.xl,maxQ a.xh b.xh,minQ a.yl b.yl,maxQ a.yh b.yh⟩
def vAt(l:List (RV×RV))(i:Nat):RV×RV:=(l[i]?).getD (z0,z0)
theorem ZhI{l:List (RV×RV)}{i:Nat}{v:RV×RV}(h:l[i]? =some v):vAt l i=v:=by simp[vAt,h]
def bxF(f:LF)(l:List (RV×RV)):Nat->B4
 |0=>atB f (vAt l 0)
 |k+1=>joinB (bxF f l k) (atB f (vAt l (k+1)))
theorem ZpS{a b:Rat}{B:Nat}(h:qs a<=B)(g:qs b<=B):qs (minQ a b)<=B:=by unfold minQ;split<;>assumption
theorem ZpY{a b:Rat}{B:Nat}(h:qs a<=B)(g:qs b<=B):qs (maxQ a b)<=B:=by unfold maxQ;split<;>assumption
theorem Znb(b:B4):joinB b b=b:=by
 have m:∀a:Rat,minQ a a=a:=fun a=>by unfold minQ;split<;>rfl
 have n:∀a:Rat,maxQ a a=a:=fun a=>by unfold maxQ;split<;>rfl
 unfold joinB;rw[m,n,m,n]
theorem Zen(x:Rat){r u:Rat}(h:r<=u):mulLo x x r u<=mulHi x x r u:=Rat.le_trans (Zbe Rat.le_refl Rat.le_refl Rat.le_refl h).1 (Zbe Rat.le_refl Rat.le_refl Rat.le_refl h).2
theorem Zmc{f:LF}(h:f.le)(v:RV×RV):(atB f v).le:=by
 obtain⟨h1,h2,h3,h4⟩:=h;have a:=Zen v.1.q h3;have b:=Zen v.2.q h4;have c:=Zen v.1.q h4;have d:=Zen v.2.q h3;unfold sle at*;unfold atB B4.le;refine⟨?_,?_⟩
 .show _+(_-_)<=_+(_-_);grind
 .show _+(_+_)<=_+(_+_);grind
theorem ZtR{a b:B4}(h:a.le)(_:b.le):(joinB a b).le:=by
 unfold B4.le joinB at*;refine⟨?_,?_⟩
 .show minQ _ _<=maxQ _ _;unfold minQ maxQ;grind
 .show minQ _ _<=maxQ _ _;unfold minQ maxQ;grind
theorem ZrB{f:LF}(h:f.le)(l:List (RV×RV)):∀k,(bxF f l k).le
 |0=>Zmc h _
 |k+1=>ZtR (ZrB h l k) (Zmc h _)
theorem Zxv{f:LF}{v:RV×RV}(hx:f.zx 28)(hc:f.zc 3)(hv:v.1.z<=8/\v.2.z<=8):(atB f v).z 400:=by
 obtain⟨⟨x1,x2⟩,x3,x4⟩:=hx;obtain⟨⟨c1,c2⟩,c3,c4⟩:=hc;have v1:=v.1.z1;have v2:=v.2.z1;obtain⟨a1,a2⟩:=ZfY v.1.q v.1.q f.cl f.ch;obtain⟨b1,b2⟩:=ZfY v.2.q v.2.q f.sl f.sh;obtain⟨d1,d2⟩:=ZfY v.1.q v.1.q f.sl f.sh;obtain⟨e1,e2⟩:=ZfY v.2.q v.2.q f.cl f.ch;have k1:=Zac (mulLo v.1.q v.1.q f.cl f.ch) (mulHi v.2.q v.2.q f.sl f.sh);have k2:=Zac (mulHi v.1.q v.1.q f.cl f.ch) (mulLo v.2.q v.2.q f.sl f.sh);have k3:=ZR (mulLo v.1.q v.1.q f.sl f.sh) (mulLo v.2.q v.2.q f.cl f.ch);have k4:=ZR (mulHi v.1.q v.1.q f.sl f.sh) (mulHi v.2.q v.2.q f.cl f.ch);have l1:=ZR f.xl (mulLo v.1.q v.1.q f.cl f.ch-mulHi v.2.q v.2.q f.sl f.sh);have l2:=ZR f.xh (mulHi v.1.q v.1.q f.cl f.ch-mulLo v.2.q v.2.q f.sl f.sh);have l3:=ZR f.yl (mulLo v.1.q v.1.q f.sl f.sh+mulLo v.2.q v.2.q f.cl f.ch);have l4:=ZR f.yh (mulHi v.1.q v.1.q f.sl f.sh+mulHi v.2.q v.2.q f.cl f.ch);unfold B4.z atB;exact⟨⟨by simp only;omega,by simp only;omega⟩,by simp only;omega,by simp only;omega⟩
theorem ZwV{a b:B4}{B:Nat}(h:a.z B)(g:b.z B):(joinB a b).z B:=⟨⟨ZpS h.1.1 g.1.1,ZpY h.1.2 g.1.2⟩,ZpS h.2.1 g.2.1,ZpY h.2.2 g.2.2⟩
theorem ZxI{l:List (RV×RV)}(hl:∀p,p∈l->p.1.z<=8/\p.2.z<=8)(i:Nat):(vAt l i).1.z<=8/\(vAt l i).2.z<=8:=by
 unfold vAt
 cases h:l[i]? with
 |none=>exact⟨(by decide:z0.z<=8),(by decide:z0.z<=8)⟩
 |some v=>exact hl v (mG h)
theorem Zuj{f:LF}{l:List (RV×RV)}(hx:f.zx 28)(hc:f.zc 3)(hl:∀p,p∈l->p.1.z<=8/\p.2.z<=8):∀k,(bxF f l k).z 400
 |0=>Zxv hx hc (ZxI hl 0)
 |k+1=>ZwV (Zuj hx hc hl k) (Zxv hx hc (ZxI hl (k+1)))
def shOf(A:ArmV)(i:Nat):List (RV×RV):=((A.links[i]?).getD ⟨z0,z0,z0,z0,z0, []⟩).shape
theorem Zjv{A:ArmV}{i:Nat}{l:LinkV}(h:A.links[i]? =some l):shOf A i=l.shape:=by simp[shOf,h]
def shbL(A:ArmV)(Q:List (RV×RV))(n:Nat):List B4:=(range n).map fun i=>bxF (linkL A Q i) (shOf A i) ((shOf A i).length-1)
theorem Zeg(A:ArmV)(Q:List (RV×RV))(n:Nat):(shbL A Q n).length=n:=by simp[shbL]
theorem Zh3{α:Type}(g:B4->α)(A:ArmV)(Q:List (RV×RV))(i:Nat):List.map g (shbL A Q (i+1))=List.map g (shbL A Q i)++[g (bxF (linkL A Q i) (shOf A i) ((shOf A i).length-1))]:=by
 simp[shbL,List.range_succ]
noncomputable def shbV(A:ArmV)(Q:List (RV×RV)):List B4:=if hasE A (Q.length:Int)=0 then shbL A Q A.links.length else []
theorem ZoE{A:ArmV}{Q:List (RV×RV)}(h:hasE A (Q.length:Int)=0):shbV A Q=shbL A Q A.links.length:=if_pos h
theorem Zv1{A:ArmV}{Q:List (RV×RV)}(h:¬hasE A (Q.length:Int)=0):shbV A Q= []:=if_neg h
theorem Zlq(A:ArmV)(Q:List (RV×RV))(i:Nat):(linkL A Q i).le:=LF.has_le (Zdc A Q i)
theorem ZeV{A:ArmV}(hA:armE A=0)(Q:List (RV×RV)){i:Nat}(hi:i<3):(linkL A Q i).zx 28:=by
 obtain⟨⟨a,b⟩,c,d⟩:=Ztq hA Q i;exact⟨⟨ω,ω⟩,ω,ω⟩
theorem Zh4{A:ArmV}(hA:armE A=0)(i:Nat):∀p,p∈shOf A i->p.1.z<=8/\p.2.z<=8:=fun p hp=>by
 unfold shOf at hp
 cases h:A.links[i]? with
 |none=>rw[h]at hp;simp at hp
 |some l=>
  rw[h]at hp;have hs:=(ZK hA (mG h)).2.2.2.2.2.2.2.2.2.2 p hp;have:=ZM hs.1;have:=ZM hs.2;omega
theorem ZkV{A:ArmV}(hA:armE A=0){i:Nat}{l:LinkV}(h:A.links[i]? =some l):3<=l.shape.length/\l.shape.length<=8:=by
 have hc:=ZaV.1 (ZK hA (mG h)).2.2.2.2.2.2.2.2.2.1;omega
theorem Zx0{A:ArmV}(hA:armE A=0)(Q:List (RV×RV)):∀b,b∈shbL A Q A.links.length->b.z 400:=fun b hb=>by
 obtain⟨i,hi,rfl⟩:=List.mem_map.1 (show b∈List.map _ _ from hb);have hi:i<A.links.length:=by simpa using hi
 have:=(Zy hA).1;exact Zuj (ZeV hA Q ω) (ZbS A Q i) (Zh4 hA i) _
theorem linksL_at'{A:ArmV}{Q:List (RV×RV)}{n i:Nat}{f:LF}(h:(linksL A Q n)[i]? =some f):f=linkL A Q i:=by
 unfold linksL at h;rw[List.getElem?_map]at h
 cases hr:(range n)[i]? with
 |none=>rw[hr]at h;simp at h
 |some j=>
  rw[hr]at h;obtain⟨h1,h2⟩:=gS hr;simp only[List.getElem_range]at h2;subst h2;simpa using h.symm
theorem ZhP{A:ArmV}{Q:List (RV×RV)}{i:Nat}{f:LF}(hi:i<A.links.length)(h:(spreadL A Q)[i]? =some f):f=linkL A Q i:=by
 unfold spreadL at h;rw[List.getElem?_append_left (by rw[show (linksL A Q A.links.length).length=A.links.length from by simp[linksL]];exact hi)]at h;exact linksL_at' h
theorem ZhO(A:ArmV)(Q:List (RV×RV)):(spreadL A Q).take A.links.length=linksL A Q A.links.length:=by
 unfold spreadL;exact List.take_left' (by simp[linksL])
def selX(j:Nat)(a b:Rat):Rat:=match j with
 |0=>a
 |_+1=>b
def selY(j:Nat)(a b:Rat):Rat:=match j with
 |0=>a
 |1=>a
 |_+2=>b
def rdB4(b:B4):List D:=rd (cn b.xl)++rd (cn b.yl)++rd (cn b.xh)++rd (cn b.yh)
def rqB4(b:B4):List D:=q3d b.xl++q3d b.xh++q3d b.yl++q3d b.yh
section
variable{K:AV->Prop}
theorem ZoF(f:LF)(v:RV×RV)(hf:f.le)(hx:f.zx 28)(hc:f.zc 3)(hv:v.1.z<=8/\v.2.z<=8):Spec Tryz.prog Tab 105 [loose (cn f.xl) (cn f.xh) (cn f.yl) (cn f.yh) (cn f.cl) (cn f.ch) (cn f.sl) (cn f.sh),pair v.1 v.2] (.tup [.agg (X1 (cn (atB f v).xl)<|X1 (cn (atB f v).xh) []),.agg (X1 (cn (atB f v).yl)<|X1 (cn (atB f v).yh) [])]):=by
 obtain⟨ol1,ol2,ol3,ol4⟩:=hf;obtain⟨⟨zx1,zx2⟩,zx3,zx4⟩:=hx;obtain⟨⟨zc1,zc2⟩,zc3,zc4⟩:=hc;obtain⟨hv1,hv2⟩:=hv;have hw1:=v.1.z1;have hw2:=v.2.z1;refine Zb Tryz.func105 Tryz.ntmps105 ?_;refine ZdJ (x:=v.1) ω (fun q10 hk_10_1 a0=>?_);simp only[cn_z]at a0;have hs10:sle q10 q10:=Rat.le_refl;refine ZdJ (x:=v.2) ω (fun q13 hk_13_1 a1=>?_);simp only[cn_z]at a1;have hs13:sle q13 q13:=Rat.le_refl;refine⟨ωr,ZcB (p:=q10) (q:=q10) (r:=f.cl) (u:=f.ch) ωs ωs ω ω ω ω (fun a2 a3 hk_19_2 hk_19_3 hk_19_4 hk_19_5 hk_19_6=> ZcB (p:=q13) (q:=q13) (r:=f.sl) (u:=f.sh) ωs ωs ω ω ω ω (fun a4 a5 hk_23_2 hk_23_3 hk_23_4 hk_23_5 hk_23_6=> Zvp (p:=a2) (q:=a3) (r:=a4) (u:=a5) ωs ωs ω ω ω ω (fun a6 a7 hk_24_2 hk_24_3 hk_24_4 hk_24_5 hk_24_6=> Zf4 (p:=f.xl) (q:=f.xh) (r:=a6) (u:=a7) ωs ωs ω ω ω ω (fun a8 a9 hk_25_2 hk_25_3 hk_25_4 hk_25_5 hk_25_6=> ZcB (p:=q10) (q:=q10) (r:=f.sl) (u:=f.sh) ωs ωs ω ω ω ω (fun aa ab hk_31_2 hk_31_3 hk_31_4 hk_31_5 hk_31_6=> ZcB (p:=q13) (q:=q13) (r:=f.cl) (u:=f.ch) ωs ωs ω ω ω ω (fun ac ad hk_35_2 hk_35_3 hk_35_4 hk_35_5 hk_35_6=> Zf4 (p:=aa) (q:=ab) (r:=ac) (u:=ad) ωs ωs ω ω ω ω (fun ae af hk_36_2 hk_36_3 hk_36_4 hk_36_5 hk_36_6=> Zf4 (p:=f.yl) (q:=f.yh) (r:=ae) (u:=af) ωs ωs ω ω ω ω (fun ag ah hk_37_2 hk_37_3 hk_37_4 hk_37_5 hk_37_6=>⟨ωr,Eq.trans (b:=.tup [.agg (X1 (cn a8)<|X1 (cn a9) []),.agg (X1 (cn ag)<|X1 (cn ah) [])]) ?_ rfl⟩))))))))⟩
 subst_vars;rfl
theorem Zvn{f:LF}{v:RV×RV}(hf:f.le)(hx:f.zx 28)(hc:f.zc 3)(hv:v.1.z<=8/\v.2.z<=8)(k:K (.tup [.agg (X1 (cn (atB f v).xl)<|X1 (cn (atB f v).xh) []),.agg (X1 (cn (atB f v).yl)<|X1 (cn (atB f v).yh) [])])):Ask 105 [loose (cn f.xl) (cn f.xh) (cn f.yl) (cn f.yh) (cn f.cl) (cn f.ch) (cn f.sl) (cn f.sh),pair v.1 v.2] K:=use (ZoF f v hf hx hc hv) rfl k
theorem Zqi{A:ArmV}{Q:List (RV×RV)}(hA:A.ok)(hQ:∀p,p∈Q->p.1.z<=3145760/\p.2.z<=3145760)(k:∀n,n=hasE A (Q.length:Int)->K (.tup [.one (.d (.list ((shbV A Q).map rdB4))),.one (.d (.v (.int .i64 n)))])):Ask 61 [arm A,Xl rdv Q] K:=use2 (k _ rfl) (by
 have hA2:=hA;obtain⟨z1,z2,z3,z4,z5,z6⟩:=hA;have hL:(A.links.map lk).length=A.links.length:=length_map ..;have hLq:(Q.map rdv).length=Q.length:=length_map ..;refine Zb Tryz.func61 Tryz.ntmps61 ?_;refine ZtH (A:=A) (Q:=Q) ωs ωs fun n20 hk_20_1=>⟨fun e1=>?_,fun e1=>?_⟩
 .have f24:n20≠0:=ZO e1;refine Eq.trans (b:=.tup [.one (.d (.list ([]))),.one (.d (.v (.int .i64 (n20))))]) ?_ rfl;rw[Zv1 (by rw[<-hk_20_1];exact f24),<-hk_20_1]
  all_goals rfl
 .have f24:¬(n20≠0):=fun hh=>hh (ZP e1);have h0:hasE A (Q.length:Int)=0:=by rw[<-hk_20_1];exact nN f24
  have hA0:=(ZaG.1 h0).1;have hn3:=(Zy hA0).1;have hLs0:((spreadV A Q).map rdL).length=A.links.length+1:=by rw[length_map,Zco h0,ZcF]
  have hLs2:(spreadV A Q).length=A.links.length+1:=by rw[Zco h0,ZcF]
  refine⟨Nat,fun i=>[(6,Xl rdL (spreadV A Q)),(8,.val (.one (.row 76 0))),(27,Xl lk A.links),(28,int ((A.links.map lk).length:Int)),(29,int (i:Int))],
   fun i=>[(76,.row 126 12 0 ((shbL A Q i).map rdB4) true)],fun i=>i<=A.links.length,fun i=>A.links.length-i,0,?_,Nat.zero_le _,fun i hs=>?_⟩
  .exact ωe
  have hT:((shbL A Q i).map rdB4).length<=3:=by rw[length_map,Zeg];omega
  refine⟨fun e2=>?_,fun e2=>?_⟩
  .have a5:(i:Int)<((A.links.map lk).length:Int):=oT e2;refine Zm (l:=A.links) (i:=i) ωm fun x32 a0=>?_;have hli:=a0;obtain⟨hs1,hs2,hs3,hs4,hs5,hs6,hs7⟩:=z6 x32 (mG a0);have hsh:=Zjv a0;have hsp:=ZkV hA0 a0;have hLs:(x32.shape.map rdv).length=x32.shape.length:=length_map ..;have hsz:∀p,p∈x32.shape->p.1.z<=8/\p.2.z<=8:=by rw[<-hsh];exact Zh4 hA0 i
   refine k_ix i _ ωh (Zd a0) rfl<|Zm (l:=(spreadV A Q)) (i:=i) ωm fun x37 a2=>?_;have a1:x37=linkL A Q i:=ZhP ω (by rw[<-Zco h0];exact a2);have hfle:x37.le:=by rw[a1];exact Zlq A Q i
   have hfx:x37.zx 28:=by rw[a1];exact ZeV hA0 Q ω
   have hfc:x37.zc 3:=by rw[a1];exact ZbS A Q i
   refine k_ix i _ ωh (Zd a2) rfl<|Zm (l:=x32.shape) (i:=0) ωm fun x41 a3=>?_;have hvx41:=hsz x41 (mG a3);have hz1x41:=hvx41.1;have hz2x41:=hvx41.2;have hvax41:=ZhI a3;refine k_ix 0 _ ωh (Zd a3) rfl<|Zvn (f:=x37) (v:=x41) hfle hfx hfc (by first|assumption|exact⟨ω,ω⟩) ⟨ωr,Zvu 1 ((x32.shape.drop 1).map rdv) (by first|omega|(simp;omega)|simp) ωh (Zcr fun _=>rfl) (List.map_drop.symm) ?_⟩;have hLd:((x32.shape.drop 1).map rdv).length=x32.shape.length-1:=by rw[length_map,List.length_drop]
   have hLd2:(x32.shape.drop 1).length=x32.shape.length-1:=List.length_drop ..;have hb0:atB x37 x41=bxF x37 x32.shape 0:=by unfold bxF;rw[hvax41]
   refine⟨Nat,fun k=>[(6,Xl rdL (spreadV A Q)),(8,.val (.one (.row 76 0))),(9,int (i:Int)),(11,.val (.one (.ptr 11 0))),(12,.val (.one (.ptr 12 0))),(27,Xl lk A.links),(28,int ((A.links.map lk).length:Int)),(29,int (i:Int)),(48,Xl rdv (x32.shape.drop 1)),(49,int (((x32.shape.drop 1).map rdv).length:Int)),(50,int (k:Int))],
    fun k=>[(11,.var 165 (X1 (cn (bxF x37 x32.shape k).xl)<|X1 (cn (bxF x37 x32.shape k).xh) [])),(12,.var 165 (X1 (cn (bxF x37 x32.shape k).yl)<|X1 (cn (bxF x37 x32.shape k).yh) [])),(76,.row 126 12 0 ((shbL A Q i).map rdB4) true)],fun k=>k<=x32.shape.length-1,fun k=>x32.shape.length-1-k,0,?_,Nat.zero_le _,fun k hs=>?_⟩
   .constructor<;>(repeat' apply And.intro)<;>first|exact ωq|exact congrArg (fun b:B4=>D.v (.bool (cn b.xl).s)) hb0|exact congrArg (fun b:B4=>D.v (.bool (cn b.xl).s)) hb0.symm|exact congrArg (fun b:B4=>D.v (.string (cn b.xl).a)) hb0|exact congrArg (fun b:B4=>D.v (.string (cn b.xl).a)) hb0.symm|exact congrArg (fun b:B4=>D.v (.string (cn b.xl).d)) hb0|exact congrArg (fun b:B4=>D.v (.string (cn b.xl).d)) hb0.symm|exact congrArg (fun b:B4=>D.v (.bool (cn b.xh).s)) hb0|exact congrArg (fun b:B4=>D.v (.bool (cn b.xh).s)) hb0.symm|exact congrArg (fun b:B4=>D.v (.string (cn b.xh).a)) hb0|exact congrArg (fun b:B4=>D.v (.string (cn b.xh).a)) hb0.symm|exact congrArg (fun b:B4=>D.v (.string (cn b.xh).d)) hb0|exact congrArg (fun b:B4=>D.v (.string (cn b.xh).d)) hb0.symm|exact congrArg (fun b:B4=>D.v (.bool (cn b.yl).s)) hb0|exact congrArg (fun b:B4=>D.v (.bool (cn b.yl).s)) hb0.symm|exact congrArg (fun b:B4=>D.v (.string (cn b.yl).a)) hb0|exact congrArg (fun b:B4=>D.v (.string (cn b.yl).a)) hb0.symm|exact congrArg (fun b:B4=>D.v (.string (cn b.yl).d)) hb0|exact congrArg (fun b:B4=>D.v (.string (cn b.yl).d)) hb0.symm|exact congrArg (fun b:B4=>D.v (.bool (cn b.yh).s)) hb0|exact congrArg (fun b:B4=>D.v (.bool (cn b.yh).s)) hb0.symm|exact congrArg (fun b:B4=>D.v (.string (cn b.yh).a)) hb0|exact congrArg (fun b:B4=>D.v (.string (cn b.yh).a)) hb0.symm|exact congrArg (fun b:B4=>D.v (.string (cn b.yh).d)) hb0|exact congrArg (fun b:B4=>D.v (.string (cn b.yh).d)) hb0.symm|(simp;done)
   obtain⟨⟨bz1,bz2⟩,bz3,bz4⟩:=Zuj hfx hfc hsz k;have bl1:sle (bxF x37 x32.shape k).xl (bxF x37 x32.shape k).xh:=(ZrB hfle x32.shape k).1;have bl2:sle (bxF x37 x32.shape k).yl (bxF x37 x32.shape k).yh:=(ZrB hfle x32.shape k).2;refine⟨fun e3=>?_,fun e3=>?_⟩
   .have a6:(k:Int)<(((x32.shape.drop 1).map rdv).length:Int):=oT e3;refine Zm (l:=(x32.shape.drop 1)) (i:=k) ωm fun x52 a4=>?_;have hgx52:x32.shape[k+1]? =some x52:=by have:=a4;rw[List.getElem?_drop,Nat.add_comm]at this;exact this
    have hvx52:=hsz x52 (mG hgx52);have hz1x52:=hvx52.1;have hz2x52:=hvx52.2;have hvax52:=ZhI hgx52;refine k_ix k _ ωh (Zd a4) rfl<|k_ix i _ ωh (Zd a2) rfl<|Zvn (f:=x37) (v:=x52) hfle hfx hfc (by first|assumption|exact⟨ω,ω⟩) ?_;obtain⟨⟨az1,az2⟩,az3,az4⟩:=Zxv hfx hfc hvx52;have al1:sle (atB x37 x52).xl (atB x37 x52).xh:=(Zmc hfle x52).1;have al2:sle (atB x37 x52).yl (atB x37 x52).yh:=(Zmc hfle x52).2;refine⟨ωr,Zqo (p:=(bxF x37 x32.shape k).xl) (q:=(bxF x37 x32.shape k).xh) (r:=(atB x37 x52).xl) (u:=(atB x37 x52).xh) ωs ωs ω ω ω ω (fun a7 a8 a9 aa hk_65_4 hk_65_5 hk_65_6=> Zqo (p:=(bxF x37 x32.shape k).yl) (q:=(bxF x37 x32.shape k).yh) (r:=(atB x37 x52).yl) (u:=(atB x37 x52).yh) ωs ωs ω ω ω ω (fun ab ac ad ae hk_68_4 hk_68_5 hk_68_6=>⟨ωr,?_⟩))⟩;have hbs:bxF x37 x32.shape (k+1)=joinB (bxF x37 x32.shape k) (atB x37 x52):=by
     show joinB _ (atB x37 (vAt _ (k+1)))=_;rw[hvax52]
    have e1:a7=(bxF x37 x32.shape (k+1)).xl:=by rw[a9,hbs];rfl
    have e2:a8=(bxF x37 x32.shape (k+1)).xh:=by rw[aa,hbs];rfl
    have e3:ab=(bxF x37 x32.shape (k+1)).yl:=by rw[ad,hbs];rfl
    have e4:ac=(bxF x37 x32.shape (k+1)).yh:=by rw[ae,hbs];rfl
    refine⟨k+1,ω,by simp only;omega,?_⟩;constructor<;>(repeat' apply And.intro)<;>first|exact ωq|exact congrArg (fun q:Rat=>D.v (.bool (cn q).s)) e1|exact congrArg (fun q:Rat=>D.v (.bool (cn q).s)) e1.symm|exact congrArg (fun q:Rat=>D.v (.string (cn q).a)) e1|exact congrArg (fun q:Rat=>D.v (.string (cn q).a)) e1.symm|exact congrArg (fun q:Rat=>D.v (.string (cn q).d)) e1|exact congrArg (fun q:Rat=>D.v (.string (cn q).d)) e1.symm|exact congrArg (fun q:Rat=>D.v (.bool (cn q).s)) e2|exact congrArg (fun q:Rat=>D.v (.bool (cn q).s)) e2.symm|exact congrArg (fun q:Rat=>D.v (.string (cn q).a)) e2|exact congrArg (fun q:Rat=>D.v (.string (cn q).a)) e2.symm|exact congrArg (fun q:Rat=>D.v (.string (cn q).d)) e2|exact congrArg (fun q:Rat=>D.v (.string (cn q).d)) e2.symm|exact congrArg (fun q:Rat=>D.v (.bool (cn q).s)) e3|exact congrArg (fun q:Rat=>D.v (.bool (cn q).s)) e3.symm|exact congrArg (fun q:Rat=>D.v (.string (cn q).a)) e3|exact congrArg (fun q:Rat=>D.v (.string (cn q).a)) e3.symm|exact congrArg (fun q:Rat=>D.v (.string (cn q).d)) e3|exact congrArg (fun q:Rat=>D.v (.string (cn q).d)) e3.symm|exact congrArg (fun q:Rat=>D.v (.bool (cn q).s)) e4|exact congrArg (fun q:Rat=>D.v (.bool (cn q).s)) e4.symm|exact congrArg (fun q:Rat=>D.v (.string (cn q).a)) e4|exact congrArg (fun q:Rat=>D.v (.string (cn q).a)) e4.symm|exact congrArg (fun q:Rat=>D.v (.string (cn q).d)) e4|exact congrArg (fun q:Rat=>D.v (.string (cn q).d)) e4.symm
   .have a6:¬((k:Int)<(((x32.shape.drop 1).map rdv).length:Int)):=oF e3;refine ZwL (a:=cn (bxF x37 x32.shape k).xl) (b:=cn (bxF x37 x32.shape k).xh) (c:=cn (bxF x37 x32.shape k).yl) (d:=cn (bxF x37 x32.shape k).yh) (e:=z0) (f:=z0) (g:=z0) (h:=z0)  ⟨⟨row1 rfl,(by show (((shbL A Q i).map rdB4).length+1)*160<=_;omega),(by show (((shbL A Q i).map rdB4).length+1)<=_;omega)⟩,?_⟩;have hk1:k=x32.shape.length-1:=ω;subst hk1;refine⟨i+1,ω,by simp only;omega,?_⟩;constructor<;>(repeat' apply And.intro)<;>first|exact ωq|(rw[Zh3,<-a1,hsh];rfl)
  .have a5:¬((i:Int)<((A.links.map lk).length:Int)):=oF e2;refine Eq.trans (b:=.tup [.one (.d (.list ((shbL A Q i).map rdB4))),.one (.d (.v (.int .i64 (0))))]) ?_ rfl;obtain rfl:i=A.links.length:=ω;rw[ZoE h0,h0]
   all_goals rfl
 ) rfl
end
section
variable{K:AV->Prop}
def obC(b:Nat->B4):Nat->List C
 |0=>[.d (.v (.bool false)),.d (.v (.slice none 0 0)),.d (.v (.slice none 0 0)),.d (.v (.bool false)),.d (.v (.slice none 0 0)),.d (.v (.slice none 0 0)),.d (.v (.bool false)),.d (.v (.slice none 0 0)),.d (.v (.slice none 0 0)),.d (.v (.bool false)),.d (.v (.slice none 0 0)),.d (.v (.slice none 0 0))]
 |k+1=>[.d (.v (.bool (decide (((b k).xl).num<0)))),.d (.list (W (w32 ((b k).xl).num.natAbs))),.d (.list (W (w32 ((b k).xl).den))),.d (.v (.bool (decide (((b k).xh).num<0)))),.d (.list (W (w32 ((b k).xh).num.natAbs))),.d (.list (W (w32 ((b k).xh).den))),.d (.v (.bool (decide (((b k).yl).num<0)))),.d (.list (W (w32 ((b k).yl).num.natAbs))),.d (.list (W (w32 ((b k).yl).den))),.d (.v (.bool (decide (((b k).yh).num<0)))),.d (.list (W (w32 ((b k).yh).num.natAbs))),.d (.list (W (w32 ((b k).yh).den)))]
theorem ZyT{A:ArmV}{Q:List (RV×RV)}(hA:A.ok)(hA0:armE A=0)(hlen:Q.length=A.links.length)(hQ:∀p,p∈Q->p.1.z<=3145760/\p.2.z<=3145760)(k:K (Xl rqB4 (shbL A Q A.links.length))):Ask 74 [arm A,Xl rdv Q] K:=use2 k (by
 have hA2:=hA;obtain⟨z1,z2,z3,z4,z5,z6⟩:=hA;have hL:(A.links.map lk).length=A.links.length:=length_map ..;have hLq:(Q.map rdv).length=Q.length:=length_map ..;have hn3:=(Zy hA0).1;have hLs0:((spreadL A Q).map rqL).length=A.links.length+1:=by rw[length_map,ZcF]
 have hLl:((linksL A Q A.links.length).map rqL).length=A.links.length:=by rw[length_map];simp[linksL]
 have hLl2:(linksL A Q A.links.length).length=A.links.length:=by simp[linksL]
 refine Zb Tryz.func74 Tryz.ntmps74 ?_;refine Zqw (A:=A) (Q:=Q) ωs hA0 hlen ωs ?_;refine ZyD A.links.length ((linksL A Q A.links.length).map rqL) (by first|omega|(simp;omega)|simp) ωh (Zcr fun _=>rfl) (by rw[<-List.map_take,ZhO]) ?_;refine⟨ωr,?_⟩;refine⟨Nat,fun i=>[(2,.val (.one (.ptr 2 0))),(5,.val (.one (.row 105 0))),(21,Xl rqL (linksL A Q A.links.length)),(22,int (((linksL A Q A.links.length).map rqL).length:Int)),(23,int (i:Int))],
  fun i=>[(2,.var 32 (aC A)),(105,.row 138 12 0 ((shbL A Q i).map rqB4) true)],fun i=>i<=A.links.length,fun i=>A.links.length-i,0,?_,Nat.zero_le _,fun i hs=>?_⟩
 .exact ωe
 have hT:((shbL A Q i).map rqB4).length<=3:=by rw[length_map,Zeg];omega
 refine⟨fun e1=>?_,fun e1=>?_⟩
 .have ba:(i:Int)<(((linksL A Q A.links.length).map rqL).length:Int):=oT e1;refine Zm (l:=(linksL A Q A.links.length)) (i:=i) ωm fun x26 b9=>?_;have a7:x26=linkL A Q i:=linksL_at' b9;have hfle:x26.le:=by rw[a7];exact Zlq A Q i
  have hfx:x26.zx 28:=by rw[a7];exact ZeV hA0 Q ω
  have hfc:x26.zc 3:=by rw[a7];exact ZbS A Q i
  have hfx2:=hfx;have hfc2:=hfc;obtain⟨⟨zx1,zx2⟩,zx3,zx4⟩:=hfx2;obtain⟨⟨zc1,zc2⟩,zc3,zc4⟩:=hfc2;refine k_ix i _ ωh (Zd b9) rfl<|Zm (l:=A.links) (i:=i) ωm fun x31 a8=>?_;have hli:=a8;have hsh:=Zjv a8;have hsp:=ZkV hA0 a8;refine k_ix i _ ωh (Zd a8) rfl ?_;have hLo:(x31.shape.map rdv).length=(shOf A i).length:=by rw[length_map,hsh]
  have hLo2:x31.shape.length=(shOf A i).length:=by rw[hsh]
  refine⟨Nat,fun k=>[(2,.val (.one (.ptr 2 0))),(5,.val (.one (.row 105 0))),(7,.val (.one (.ptr 7 0))),(8,.val (.one (.ptr 8 0))),(21,Xl rqL (linksL A Q A.links.length)),(22,int (((linksL A Q A.links.length).map rqL).length:Int)),(23,int (i:Int)),(33,Xl rdv x31.shape),(34,int ((x31.shape.map rdv).length:Int)),(35,int (k:Int))],
   fun k=>[(2,.var 32 (aC A)),(7,.var 188 (Q1 x26.xl<|Q1 x26.xh<|Q1 x26.yl<|Q1 x26.yh<|Q1 x26.cl<|Q1 x26.ch<|Q1 x26.sl<|Q1 x26.sh [])),(8,.var 138 (obC (bxF x26 (shOf A i)) k)),(105,.row 138 12 0 ((shbL A Q i).map rqB4) true)],fun k=>k<=(shOf A i).length,fun k=>(shOf A i).length-k,0,?_,Nat.zero_le _,fun k hs=>?_⟩
  .exact ωe
  refine⟨fun e2=>?_,fun e2=>?_⟩
  .have bb:(k:Int)<((x31.shape.map rdv).length:Int):=oT e2;obtain rfl|⟨m,rfl⟩:k=0\/∃m,k=m+1:=by
    rcases k with _|m
    .exact .inl rfl
    .exact .inr ⟨m,rfl⟩
   .refine Zm (l:=x31.shape) (i:=0) ωm fun x38 a6=>?_;have hv38:=Zh4 hA0 i x38 (by rw[hsh];exact mG a6);have bc:=hv38.1;have bd:=hv38.2;have be:=x38.1.z1;have bf:=x38.2.z1;have hva:=ZhI (show (shOf A i)[_]? =some x38 from by rw[hsh];exact a6);refine k_ix 0 _ ωh (Zd a6) rfl<|Zq (x:=x38.1) ω (fun r42 a4 bg=> ZaR (q:=r42)<|Zq (x:=x38.2) ω (fun r46 a5 bh=> ZaR (q:=r46)  ⟨ωr,Zav (p:=r42) (q:=r42) (r:=x26.cl) (u:=x26.ch) ω ω ω ω (fun aa ab ac ad bi bj=> Zav (p:=r46) (q:=r46) (r:=x26.sl) (u:=x26.sh) ω ω ω ω (fun ae af ag ah bk bl=> Zj3 (p:=aa) (q:=ab) (r:=ae) (u:=af) ω ω ω ω (fun ai aj ak al bm bn=> ZbT (p:=x26.xl) (q:=x26.xh) (r:=ai) (u:=aj) ω ω ω ω (fun a0 a1 am an bo bp=> Zav (p:=r42) (q:=r42) (r:=x26.sl) (u:=x26.sh) ω ω ω ω (fun ao ap aq ar bq br=> Zav (p:=r46) (q:=r46) (r:=x26.cl) (u:=x26.ch) ω ω ω ω (fun au av aw ax bs bt=> ZbT (p:=ao) (q:=ap) (r:=au) (u:=av) ω ω ω ω (fun ay az b0 b1 bu bv=> ZbT (p:=x26.yl) (q:=x26.yh) (r:=ay) (u:=az) ω ω ω ω (fun a2 a3 b2 b3 bw bx=>?_))))))))⟩));have ep1:a0=(atB x26 x38).xl:=by rw[am,ak,ac,ah,a4,a5];rfl
    have ep2:a1=(atB x26 x38).xh:=by rw[an,al,ad,ag,a4,a5];rfl
    have ep3:a2=(atB x26 x38).yl:=by rw[b2,b0,aq,aw,a4,a5];rfl
    have ep4:a3=(atB x26 x38).yh:=by rw[b3,b1,ar,ax,a4,a5];rfl
    refine⟨ωr,⟨fun e3=>?_,fun e3=>?_⟩⟩
    .have a9:((0:Nat):Int)=0:=ZaW e3;refine⟨Nat,fun j=>[(2,.val (.one (.ptr 2 0))),(5,.val (.one (.row 105 0))),(7,.val (.one (.ptr 7 0))),(8,.val (.one (.ptr 8 0))),(13,.val (.one (.ptr 13 0))),(21,Xl rqL (linksL A Q A.links.length)),(22,int (((linksL A Q A.links.length).map rqL).length:Int)),(23,int (i:Int)),(33,Xl rdv x31.shape),(34,int ((x31.shape.map rdv).length:Int)),(35,int ((0:Nat):Int)),(76,int (j:Int))],
      fun j=>[(2,.var 32 (aC A)),(7,.var 188 (Q1 x26.xl<|Q1 x26.xh<|Q1 x26.yl<|Q1 x26.yh<|Q1 x26.cl<|Q1 x26.ch<|Q1 x26.sl<|Q1 x26.sh [])),(8,.var 138 (Q1 (selX j a0 (minQ a0 a0))<|Q1 (selX j a1 (maxQ a1 a1))<|Q1 (selY j a2 (minQ a2 a2))<|Q1 (selY j a3 (maxQ a3 a3)) [])),(13,.var 138 (Q1 a0<|Q1 a1<|Q1 a2<|Q1 a3 [])),(105,.row 138 12 0 ((shbL A Q i).map rqB4) true)],fun j=>j<=2,fun j=>2-j,0,?_,Nat.zero_le _,fun j hs=>?_⟩
     .exact ωe
     refine⟨fun e4=>?_,fun e4=>?_⟩
     .have b4:(j:Int)<2:=oT e4;obtain rfl|rfl:j=0\/j=1:=ω
      .exact Z8 (p:=a0) (q:=a0) ω ω (fun r88 b5 b6=> ZaF (p:=a1) (q:=a1) ω ω (fun r97 b7 b8=>⟨ωr,⟨1,ω,by simp only;omega,ηE⟩⟩))
      .exact Z8 (p:=a2) (q:=a2) ω ω (fun r88 b5 b6=> ZaF (p:=a3) (q:=a3) ω ω (fun r97 b7 b8=>⟨ωr,⟨2,ω,by simp only;omega,ηE⟩⟩))
     .have b4:¬((j:Int)<2):=oF e4;obtain rfl:j=2:=ω;have hb:bxF x26 (shOf A i) 0=⟨a0,a1,a2,a3⟩:=by rw[ep1,ep2,ep3,ep4];show atB x26 (vAt _ 0)=_;rw[hva]
      have hj:joinB ⟨a0,a1,a2,a3⟩ ⟨a0,a1,a2,a3⟩=bxF x26 (shOf A i) 0:=by rw[Znb,hb]
      refine⟨1,ω,by simp only;omega,?_⟩;have:=congrArg B4.xl hj;have:=congrArg B4.xh hj;have:=congrArg B4.yl hj;have:=congrArg B4.yh hj;exact ηE
    .have a9:¬(((0:Nat):Int)=0):=ZaX e3;exfalso;exact a9 rfl
   .obtain⟨⟨bz1,bz2⟩,bz3,bz4⟩:=Zuj hfx hfc (Zh4 hA0 i) m;refine Zm (l:=x31.shape) (i:=(m+1)) ωm fun x38 a6=>?_;have hv38:=Zh4 hA0 i x38 (by rw[hsh];exact mG a6);have bc:=hv38.1;have bd:=hv38.2;have be:=x38.1.z1;have bf:=x38.2.z1;have hva:=ZhI (show (shOf A i)[_]? =some x38 from by rw[hsh];exact a6);refine k_ix (m+1) _ ωh (Zd a6) rfl<|Zq (x:=x38.1) ω (fun r42 a4 bg=> ZaR (q:=r42)<|Zq (x:=x38.2) ω (fun r46 a5 bh=> ZaR (q:=r46)  ⟨ωr,Zav (p:=r42) (q:=r42) (r:=x26.cl) (u:=x26.ch) ω ω ω ω (fun aa ab ac ad bi bj=> Zav (p:=r46) (q:=r46) (r:=x26.sl) (u:=x26.sh) ω ω ω ω (fun ae af ag ah bk bl=> Zj3 (p:=aa) (q:=ab) (r:=ae) (u:=af) ω ω ω ω (fun ai aj ak al bm bn=> ZbT (p:=x26.xl) (q:=x26.xh) (r:=ai) (u:=aj) ω ω ω ω (fun a0 a1 am an bo bp=> Zav (p:=r42) (q:=r42) (r:=x26.sl) (u:=x26.sh) ω ω ω ω (fun ao ap aq ar bq br=> Zav (p:=r46) (q:=r46) (r:=x26.cl) (u:=x26.ch) ω ω ω ω (fun au av aw ax bs bt=> ZbT (p:=ao) (q:=ap) (r:=au) (u:=av) ω ω ω ω (fun ay az b0 b1 bu bv=> ZbT (p:=x26.yl) (q:=x26.yh) (r:=ay) (u:=az) ω ω ω ω (fun a2 a3 b2 b3 bw bx=>?_))))))))⟩));have ep1:a0=(atB x26 x38).xl:=by rw[am,ak,ac,ah,a4,a5];rfl
    have ep2:a1=(atB x26 x38).xh:=by rw[an,al,ad,ag,a4,a5];rfl
    have ep3:a2=(atB x26 x38).yl:=by rw[b2,b0,aq,aw,a4,a5];rfl
    have ep4:a3=(atB x26 x38).yh:=by rw[b3,b1,ar,ax,a4,a5];rfl
    refine⟨ωr,⟨fun e5=>?_,fun e5=>?_⟩⟩
    .have a9:((m+1:Nat):Int)=0:=ZaW e5;exfalso;omega
    .have a9:¬(((m+1:Nat):Int)=0):=ZaX e5;refine⟨Nat,fun j=>[(2,.val (.one (.ptr 2 0))),(5,.val (.one (.row 105 0))),(7,.val (.one (.ptr 7 0))),(8,.val (.one (.ptr 8 0))),(13,.val (.one (.ptr 13 0))),(21,Xl rqL (linksL A Q A.links.length)),(22,int (((linksL A Q A.links.length).map rqL).length:Int)),(23,int (i:Int)),(33,Xl rdv x31.shape),(34,int ((x31.shape.map rdv).length:Int)),(35,int ((m+1:Nat):Int)),(76,int (j:Int))],
      fun j=>[(2,.var 32 (aC A)),(7,.var 188 (Q1 x26.xl<|Q1 x26.xh<|Q1 x26.yl<|Q1 x26.yh<|Q1 x26.cl<|Q1 x26.ch<|Q1 x26.sl<|Q1 x26.sh [])),(8,.var 138 [.d (.v (.bool (decide ((selX j ((bxF x26 (shOf A i) m).xl) (minQ ((bxF x26 (shOf A i) m).xl) a0)).num<0)))),.d (.list (W (w32 (selX j ((bxF x26 (shOf A i) m).xl) (minQ ((bxF x26 (shOf A i) m).xl) a0)).num.natAbs))),.d (.list (W (w32 (selX j ((bxF x26 (shOf A i) m).xl) (minQ ((bxF x26 (shOf A i) m).xl) a0)).den))),.d (.v (.bool (decide ((selX j ((bxF x26 (shOf A i) m).xh) (maxQ ((bxF x26 (shOf A i) m).xh) a1)).num<0)))),.d (.list (W (w32 (selX j ((bxF x26 (shOf A i) m).xh) (maxQ ((bxF x26 (shOf A i) m).xh) a1)).num.natAbs))),.d (.list (W (w32 (selX j ((bxF x26 (shOf A i) m).xh) (maxQ ((bxF x26 (shOf A i) m).xh) a1)).den))),.d (.v (.bool (decide ((selY j ((bxF x26 (shOf A i) m).yl) (minQ ((bxF x26 (shOf A i) m).yl) a2)).num<0)))),.d (.list (W (w32 (selY j ((bxF x26 (shOf A i) m).yl) (minQ ((bxF x26 (shOf A i) m).yl) a2)).num.natAbs))),.d (.list (W (w32 (selY j ((bxF x26 (shOf A i) m).yl) (minQ ((bxF x26 (shOf A i) m).yl) a2)).den))),.d (.v (.bool (decide ((selY j ((bxF x26 (shOf A i) m).yh) (maxQ ((bxF x26 (shOf A i) m).yh) a3)).num<0)))),.d (.list (W (w32 (selY j ((bxF x26 (shOf A i) m).yh) (maxQ ((bxF x26 (shOf A i) m).yh) a3)).num.natAbs))),.d (.list (W (w32 (selY j ((bxF x26 (shOf A i) m).yh) (maxQ ((bxF x26 (shOf A i) m).yh) a3)).den)))]),(13,.var 138 (Q1 a0<|Q1 a1<|Q1 a2<|Q1 a3 [])),(105,.row 138 12 0 ((shbL A Q i).map rqB4) true)],fun j=>j<=2,fun j=>2-j,0,?_,Nat.zero_le _,fun j hs=>?_⟩
     .exact ωe
     refine⟨fun e6=>?_,fun e6=>?_⟩
     .have b4:(j:Int)<2:=oT e6;obtain rfl|rfl:j=0\/j=1:=ω
      .exact Z8 (p:=(bxF x26 (shOf A i) m).xl) (q:=a0) ω ω (fun r88 b5 b6=> ZaF (p:=(bxF x26 (shOf A i) m).xh) (q:=a1) ω ω (fun r97 b7 b8=>⟨ωr,⟨1,ω,by simp only;omega,ηE⟩⟩))
      .exact Z8 (p:=(bxF x26 (shOf A i) m).yl) (q:=a2) ω ω (fun r88 b5 b6=> ZaF (p:=(bxF x26 (shOf A i) m).yh) (q:=a3) ω ω (fun r97 b7 b8=>⟨ωr,⟨2,ω,by simp only;omega,ηE⟩⟩))
     .have b4:¬((j:Int)<2):=oF e6;obtain rfl:j=2:=ω;have hp:atB x26 x38=⟨a0,a1,a2,a3⟩:=by rw[ep1,ep2,ep3,ep4]
      have hj:joinB (bxF x26 (shOf A i) m) ⟨a0,a1,a2,a3⟩=bxF x26 (shOf A i) (m+1):=by rw[<-hp,<-hva];rfl
      refine⟨m+1+1,ω,by simp only;omega,?_⟩;have:=congrArg B4.xl hj;have:=congrArg B4.xh hj;have:=congrArg B4.yl hj;have:=congrArg B4.yh hj;exact ηE
  .have bb:¬((k:Int)<((x31.shape.map rdv).length:Int)):=oF e2;obtain⟨m,rfl⟩:∃m,k=m+1:=by
    rcases k with _|m
    .exfalso;omega
    .exact⟨m,rfl⟩
   refine⟨⟨row1 rfl,(by show (((shbL A Q i).map rqB4).length+1)*224<=_;omega),(by show (((shbL A Q i).map rqB4).length+1)<=_;omega)⟩,?_⟩;have hk1:m=(shOf A i).length-1:=ω;have hk2:bxF x26 (shOf A i) m=bxF (linkL A Q i) (shOf A i) ((shOf A i).length-1):=by rw[hk1,a7]
   refine⟨i+1,ω,by simp only;omega,?_⟩;constructor<;>(repeat' apply And.intro)<;>first|exact ωq|(rw[Zh3,<-hk2];rfl)
 .have ba:¬((i:Int)<(((linksL A Q A.links.length).map rqL).length:Int)):=oF e1;refine Eq.trans (b:=(Xl rqB4 (shbL A Q i))) ?_ rfl;obtain rfl:i=A.links.length:=ω;rfl
 ) rfl
end
