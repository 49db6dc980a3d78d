/- Contracts of packages poly and apart for numbers of up to 260,000,000 bytes. Printed by wip/gen_wide.py. -/
import Derived.Test.YtnhfpbcbhnfeaaaGreatDoorQGrpAp
import Derived.Test.YtnhfpbcbhnfeaaaGreatDoorQGrpGe
set_option maxHeartbeats 2000000
set_option maxRecDepth 100000
open List (mem_of_getElem? length_map)
namespace Go.Proofs.YtnhfpbcbhnfeaaaGreatDoor.eng
open Go.RowKit num mem seg q held ratA ratB ratC ratD ratE vars ratF trq
section
variable{x y z t u v:RV}{K:AV->Prop}
theorem ZiH{l:List (RV×RV)}(hl:∀p,p∈l->p.1.z<=260000000/\p.2.z<=260000000)(hn:l.length<=1073741824)(k:∀n,n=convE 64 l->K (int n)):Ask 209 [vecs l] K:=use (ZkA l hl hn) rfl (k _ rfl)
theorem Zu3{l:List (RV×RV)}(hl:∀p,p∈l->p.1.z<=260000000/\p.2.z<=260000000)(i:Nat):qs (pts l i).1<=260000001/\qs (pts l i).2<=260000001:=by
 unfold pts
 cases h:l[i]? with
 |none=>simp only[Option.getD_none,z0q];exact⟨by decide+kernel,by decide+kernel⟩
 |some p=>
  simp only[Option.getD_some];have:=hl p (mG h);have a:=p.1.z1;have b:=p.2.z1;omega
theorem ZmN(p0:RV×RV)(l:List (RV×RV))(hl:∀p,p∈p0::l->p.1.z<=260000000/\p.2.z<=260000000)(hn:(p0::l).length<=1073741824):Spec Tryz.prog Tab 109 [Xl rdv (p0::l)] (box (cn (lowL p0.1.q (xsQ l))) (cn (lowL p0.2.q (ysQ l))) (cn (highL p0.1.q (xsQ l))) (cn (highL p0.2.q (ysQ l)))):=by
 have hL:(l.map rdv).length=l.length:=length_map ..;have hL0:((p0::l).map rdv).length=l.length+1:=by simp
 have hn0:(p0::l).length=l.length+1:=rfl;have hp00:=hl p0 (by simp);refine Zb Tryz.func109 Tryz.ntmps109 ?_;refine Zqd (x:=z0) (y:=z0) (z:=z0) (t:=z0) (by simp only[z0z];omega) (by simp only[z0z];omega) (by simp only[z0z];omega) (by simp only[z0z];omega) (fun p10 q10 a3 a4 a5 a6=>?_);simp only[cn_z,z0z]at a5;simp only[cn_z,z0z]at a6;refine⟨fun e1=>?_,fun e1=>?_⟩
 .have a7:(((p0::l).map rdv).length:Int)=0:=ZaW e1;exfalso;omega
 .have a7:¬((((p0::l).map rdv).length:Int)=0):=ZaX e1;refine k_ix 0 _ ωh (Zd rfl) rfl<|Zqd (x:=p0.1) (y:=p0.2) (z:=cn p10) (t:=cn q10) ω ω ωz ωz (fun p21 q21 a1 a2 a8 a9=>?_)
  try simp only[cn_q]at a1
  try simp only[cn_q]at a2
  simp only[cn_z]at a8;simp only[cn_z]at a9;refine⟨ωr,Zvu 1 (l.map rdv) (by first|omega|(simp;omega)|simp) ωh (Zcr fun _=>rfl) (rfl) ?_⟩;have hz0:p10=0/\q10=0:=by rw[a3,a4,z0q,Rat.add_zero];exact⟨rfl,rfl⟩
  obtain rfl:p21=p0.1.q:=by rw[a1,hz0.1,Rat.add_zero]
  obtain rfl:q21=p0.2.q:=by rw[a2,hz0.2,Rat.add_zero]
  refine⟨Nat,fun i=>[(2,.val (.one (.ptr 2 0))),(5,.val (.one (.ptr 5 0))),(26,Xl rdv l),(27,int ((l.map rdv).length:Int)),(28,int (i:Int))],
   fun i=>[(2,.var 126 (X1 z0<|X1 z0<|X1 z0<|X1 z0 [])),(5,.var 126 (X1 (cn (lowL p0.1.q (xsQ (l.take i))))<|X1 (cn (lowL p0.2.q (ysQ (l.take i))))<|X1 (cn (highL p0.1.q (xsQ (l.take i))))<|X1 (cn (highL p0.2.q (ysQ (l.take i)))) []))],fun i=>i<=l.length,fun i=>l.length-i,0,?_,Nat.zero_le _,fun i hs=>?_⟩
  .exact ωe
  have hz2:=xs_z (B:=260000000) (l:=l) (fun p hp=>hl p (by simp[hp])) i;have hp0:=hl p0 (by simp);have z1:=p0.1.z1;have z2:=p0.2.z1;have b1:=Zpk (B:=260000001) (q:=p0.1.q) ω hz2.1;have b2:=Zpk (B:=260000001) (q:=p0.2.q) ω hz2.2;have b3:=Zk6 (B:=260000001) (q:=p0.1.q) ω hz2.1;have b4:=Zk6 (B:=260000001) (q:=p0.2.q) ω hz2.2;refine⟨fun e2=>?_,fun e2=>?_⟩
  .have aa:(i:Int)<((l.map rdv).length:Int):=oT e2;obtain⟨x30,a0⟩:∃vv,l[i]? =some vv:=⟨_,gE ωm⟩;have hzx30:=hl x30 (List.mem_cons_of_mem _ (mG a0));refine k_ix i _ ωh (Zd a0) rfl<|Zm7 (x:=cn (lowL p0.1.q (xsQ (l.take i)))) (y:=x30.1) ωz ω fun q37 h37 z37=>?_;simp only[cn_z]at z37;simp only[cn_q]at h37;refine Zm7 (x:=cn (lowL p0.2.q (ysQ (l.take i)))) (y:=x30.2) ωz ω fun q43 h43 z43=>?_;simp only[cn_z]at z43;simp only[cn_q]at h43;refine⟨ωr,Zm8 (x:=cn (highL p0.1.q (xsQ (l.take i)))) (y:=x30.1) ωz ω fun q51 h51 z51=>?_⟩;simp only[cn_z]at z51;simp only[cn_q]at h51;refine Zm8 (x:=cn (highL p0.2.q (ysQ (l.take i)))) (y:=x30.2) ωz ω fun q57 h57 z57=>?_;simp only[cn_z]at z57;simp only[cn_q]at h57;refine⟨ωr,?_⟩;have hxs:=ZvL a0;obtain rfl:q37=lowL p0.1.q (xsQ (l.take (i+1))):=by rw[h37,hxs.1,Ziw]
   obtain rfl:q43=lowL p0.2.q (ysQ (l.take (i+1))):=by rw[h43,hxs.2,Ziw]
   obtain rfl:q51=highL p0.1.q (xsQ (l.take (i+1))):=by rw[h51,hxs.1,Zf9]
   obtain rfl:q57=highL p0.2.q (ysQ (l.take (i+1))):=by rw[h57,hxs.2,Zf9]
   exact⟨i+1,ω,by simp only;omega,ωE⟩
  .have aa:¬((i:Int)<((l.map rdv).length:Int)):=oF e2;refine Eq.trans (b:=box (cn (lowL p0.1.q (xsQ (l.take i)))) (cn (lowL p0.2.q (ysQ (l.take i)))) (cn (highL p0.1.q (xsQ (l.take i)))) (cn (highL p0.2.q (ysQ (l.take i))))) ?_ rfl;rw[List.take_of_length_le (show l.length<=i by omega)]
theorem ZwF{p0:RV×RV}{l:List (RV×RV)}(hl:∀p,p∈p0::l->p.1.z<=260000000/\p.2.z<=260000000)(hn:(p0::l).length<=1073741824)(k:∀p q r u,p=lowL p0.1.q (xsQ l)->q=lowL p0.2.q (ysQ l)->r=highL p0.1.q (xsQ l)->u=highL p0.2.q (ysQ l)->K (box (cn p) (cn q) (cn r) (cn u))):Ask 109 [vecs (p0::l)] K:=use (ZmN p0 l hl hn) rfl (k _ _ _ _ rfl rfl rfl rfl)
theorem ZtC{l:List (RV×RV)}(hl:∀p,p∈l->p.1.z<=260000000/\p.2.z<=260000000)(hn:l.length<=1073741824)(k:∀p q r u,p=bx1 l->q=bx2 l->r=bx3 l->u=bx4 l->K (box (cn p) (cn q) (cn r) (cn u))):Ask 109 [vecs l] K:=by
 cases l with
 |nil=>exact ZwG rfl (k _ _ _ _ rfl rfl rfl rfl)
 |cons p l=>exact ZwF hl hn k
theorem ZvH{a b:List (RV×RV)}(ha:∀p,p∈a->p.1.z<=260000000/\p.2.z<=260000000):(beyV a b).1.z<=520000010/\(beyV a b).2.z<=520000010:=by
 unfold beyV;split
 .rename_i i _;have h1:=Zu3 ha i;have h2:=Zu3 ha ((i+1)%a.length);have:=Zac (pts a ((i+1)%a.length)).2 (pts a i).2;have:=Zac (pts a ((i+1)%a.length)).1 (pts a i).1;have:=ZbY ((pts a ((i+1)%a.length)).1-(pts a i).1);simp only[cn_z,outN];omega
 .exact⟨Nat.zero_le _,Nat.zero_le _⟩
theorem ZwO{a b:List (RV×RV)}(ha:∀p,p∈a->p.1.z<=260000000/\p.2.z<=260000000)(hb:∀p,p∈b->p.1.z<=260000000/\p.2.z<=260000000)(hna:a.length<=1073741824)(hnb:b.length<=1073741824)(k:∀n,n=bothE a b->K (int n)):Ask 171 [vecs a,vecs b] K:=use2 (k _ rfl) (by
 refine Zb Tryz.func171 Tryz.ntmps171 ?_;refine ZiH (l:=a) ωs ω (fun n7 hk_7_1=>⟨fun e1=>?_,fun e1=>?_⟩)
 .have f9:n7≠0:=ZO e1;refine Eq.trans (b:=int n7) ?_ rfl;rw[bothE,if_neg ω];exact congrArg int ω
 .have f9:¬(n7≠0):=fun hh=>hh (ZP e1);refine ZiH (l:=b) ωs ω (fun n12 hk_12_1=> Eq.trans (b:=int n12) ?_ rfl);rw[bothE,if_pos ω];exact congrArg int ω
 ) rfl
theorem Zi3(a b:List (RV×RV))(ha:∀p,p∈a->p.1.z<=260000000/\p.2.z<=260000000)(hb:∀p,p∈b->p.1.z<=260000000/\p.2.z<=260000000)(hna:a.length<=1073741824)(hnb:b.length<=1073741824):Spec Tryz.prog Tab 172 [Xl rdv a,Xl rdv b] (.tup [.agg (X1 ((beyV a b).1)<|X1 ((beyV a b).2) []),.one (.d (.v (.bool ((bey a b).isSome))))]):=by
 have hLa:(a.map rdv).length=a.length:=length_map ..;have hLb:(b.map rdv).length=b.length:=length_map ..;refine Zb Tryz.func172 Tryz.ntmps172 ?_;refine⟨Nat,fun i=>[(0,Xl rdv a),(1,Xl rdv b),(4,.val (.one (.ptr 4 0))),(13,Xl rdv a),(14,int ((a.map rdv).length:Int)),(15,int (i:Int))],
  fun i=>[(4,.var 25 (X1 z0<|X1 z0 []))],fun i=>i<=a.length/\∀i',i'<i->farTo (pts a) a.length (pts b) i' b.length=false,fun i=>a.length-i,0,?_,⟨Nat.zero_le _,fun i' h=>absurd h (Nat.not_lt_zero _)⟩,fun i hs=>?_⟩
 .exact ωe
 obtain⟨hi,h1⟩:=hs;refine⟨fun e1=>?_,fun e1=>?_⟩
 .have a6:(i:Int)<((a.map rdv).length:Int):=oT e1;obtain⟨x18,a0⟩:∃vv,a[i]? =some vv:=⟨_,gE ωm⟩;have hzx18:=ha x18 (mG a0);have hpx18:=Zat a0;refine k_ix i _ ωh (Zd a0) rfl ?_;refine Zf3 (i+1) a.length ωh ωh ω ?_;obtain⟨x26,a1⟩:∃vv,a[((i+1)%a.length)]? =some vv:=⟨_,gE ωm⟩;have hzx26:=ha x26 (mG a1);have hpx26:=Zat a1;refine k_ix ((i+1)%a.length) (Y1 x26.1<|Y1 x26.2 []) ωh (Zd a1) rfl ?_;refine Zlu (x:=x26.1) (y:=x26.2) (z:=x18.1) (t:=x18.2) ω ω ω ω (fun p29 q29 a7 a8 a9 aa=>?_);simp only[cn_z]at a9;simp only[cn_z]at aa;refine⟨ωr,?_⟩;refine ZwH (x:=cn p29) ωz fun q34 h34 z34=>?_;simp only[cn_z]at z34;simp only[cn_q]at h34;refine⟨ωr,?_⟩;refine⟨Nat,fun k=>[(0,Xl rdv a),(1,Xl rdv b),(4,.val (.one (.ptr 4 0))),(7,.val (.one (.ptr 7 0))),(9,.val (.one (.ptr 9 0))),(10,bool (farTo (pts a) a.length (pts b) i k)),(13,Xl rdv a),(14,int ((a.map rdv).length:Int)),(15,int (i:Int)),(36,Xl rdv b),(37,int ((b.map rdv).length:Int)),(38,int (k:Int))],
   fun k=>[(4,.var 25 (X1 z0<|X1 z0 [])),(7,.var 25 (X1 x18.1<|X1 x18.2 [])),(9,.var 25 (X1 (cn q29)<|X1 (cn q34) []))],fun k=>k<=b.length,fun k=>b.length-k,0,?_,Nat.zero_le _,fun k hs=>?_⟩
  .exact ωe
  refine⟨fun e2=>?_,fun e2=>?_⟩
  .have ab:(k:Int)<((b.map rdv).length:Int):=oT e2;obtain⟨x40,a2⟩:∃vv,b[k]? =some vv:=⟨_,gE ωm⟩;have hzx40:=hb x40 (mG a2);have hpx40:=Zat a2;refine k_ix k _ ωh (Zd a2) rfl<|fork (fun e3=>?_) (fun e3=>?_)
   .have a3:farTo (pts a) a.length (pts b) i k=true:=e3;refine Zlu (x:=x40.1) (y:=x40.2) (z:=x18.1) (t:=x18.2) ω ω ω ω (fun p47 q47 ac ad ae af=>?_);simp only[cn_z]at ae;simp only[cn_z]at af;refine ZyC (x:=cn q29) (y:=cn q34) (z:=cn p47) (t:=cn q47) ωz ωz ωz ωz (fun q48 a5 ag=>?_)
    try simp only[cn_q]at a5
    simp only[cn_z]at ag;refine Zf2 (x:=cn q48) ωz fun n49 h49=>?_;simp only[cn_q]at h49;refine⟨ωr,?_⟩;have hfar:farTo (pts a) a.length (pts b) i (k+1)=(decide (n49 >0)):=by
     rw[Zge,a3];rw[Bool.true_and];refine decide_eq_decide.2 ((ZoJ h49).trans ?_).symm;rw[a5,ac,ad,h34];unfold outN;rw[hpx18,hpx26,hpx40,a7,a8]
    exact⟨k+1,ω,by simp only;omega,ωE⟩
   .have a3:¬(farTo (pts a) a.length (pts b) i k=true):=fun hh=>by rw[hh]at e3;exact Bool.noConfusion e3
    refine⟨ωr,?_⟩;have hfar:farTo (pts a) a.length (pts b) i (k+1)=false:=by rw[Zge,Bool.eq_false_iff.2 a3];rfl
    exact⟨k+1,ω,by simp only;omega,ωE⟩
  .have ab:¬((k:Int)<((b.map rdv).length:Int)):=oF e2;have hk2:b.length=k:=ω;refine⟨fun e4=>?_,fun e4=>?_⟩
   .have a4:farTo (pts a) a.length (pts b) i k=true:=e4;refine Eq.trans (b:=.tup [.agg (X1 (cn q29)<|X1 (cn q34) []),.one (.d (.v (.bool (true))))]) ?_ rfl;have he:bey a b=some i:=Znk ω h1 (by rw[hk2];exact a4);have hv:beyV a b=(cn q29,cn q34):=by
     simp only[beyV,he];unfold outN;rw[hpx18,hpx26,h34];subst_vars;rfl
    rw[he,hv];rfl
   .have a4:¬(farTo (pts a) a.length (pts b) i k=true):=fun hh=>by rw[hh]at e4;exact Bool.noConfusion e4
    have hno:farTo (pts a) a.length (pts b) i b.length=false:=by rw[hk2];exact Bool.eq_false_iff.2 a4
    refine⟨i+1,⟨ω,fun i' g=>by
     by_cases e:i'=i
     .subst e;exact hno
     .exact h1 i' ω⟩,by simp only;omega,?_⟩
    exact ωE
 .have a6:¬((i:Int)<((a.map rdv).length:Int)):=oF e1;refine Eq.trans (b:=.tup [.agg (X1 z0<|X1 z0 []),.one (.d (.v (.bool (false))))]) ?_ rfl;have he:bey a b=none:=Zq0 fun j hj=>h1 j ω;have hv:beyV a b=(z0,z0):=by simp only[beyV,he]
  rw[he,hv];rfl
theorem Zvw{a b:List (RV×RV)}(ha:∀p,p∈a->p.1.z<=260000000/\p.2.z<=260000000)(hb:∀p,p∈b->p.1.z<=260000000/\p.2.z<=260000000)(hna:a.length<=1073741824)(hnb:b.length<=1073741824)(k:(beyV a b).1.z<=520000010->(beyV a b).2.z<=520000010->K (two (pair (beyV a b).1 (beyV a b).2) (bool (bey a b).isSome))):Ask 172 [vecs a,vecs b] K:=use (Zi3 a b ha hb hna hnb) rfl (k (ZvH ha).1 (ZvH ha).2)
theorem ZmV(a b:List (RV×RV))(ha:∀p,p∈a->p.1.z<=260000000/\p.2.z<=260000000)(hb:∀p,p∈b->p.1.z<=260000000/\p.2.z<=260000000)(hna:a.length<=1073741824)(hnb:b.length<=1073741824):Spec Tryz.prog Tab 110 [Xl rdv a,Xl rdv b] (.tup [.one (.d (.v (.bool (meetB a b)))),.one (.d (.v (.int .i64 (bothE a b))))]):=by
 have hLa:(a.map rdv).length=a.length:=length_map ..;have hLb:(b.map rdv).length=b.length:=length_map ..;refine Zb Tryz.func110 Tryz.ntmps110 ?_;refine ZwO (a:=a) (b:=b) ωs ωs ω ω (fun n13 a1=>⟨fun e1=>?_,fun e1=>?_⟩)
 .have a0:n13≠0:=ZO e1;refine Eq.trans (b:=.tup [.one (.d (.v (.bool (false)))),.one (.d (.v (.int .i64 (n13))))]) ?_ rfl;subst a1;rw[show meetB a b=false from by unfold meetB;rw[beq_false_of_ne a0];rfl]
 .have a0:¬(n13≠0):=fun hh=>hh (ZP e1);refine Zvw (a:=a) (b:=b) ωs ωs ω ω (fun hk_20_0 hk_20_1=> Zvw (a:=b) (b:=a) ωs ωs ω ω (fun hk_26_0 hk_26_1=> fork (fun e2=>?_) (fun e2=>?_)))
  .refine Eq.trans (b:=.tup [.one (.d (.v (.bool (!((bey b a).isSome))))),.one (.d (.v (.int .i64 (0))))]) ?_ rfl;have hb0:bothE a b=0:=ω;have hm:meetB a b=(!((bey b a).isSome)):=by
    unfold meetB;rw[hb0];revert e2;cases bey a b<;>cases bey b a<;>intro e2<;>first|rfl|(simp at e2)
   rw[hm,hb0]
  .refine Eq.trans (b:=.tup [.one (.d (.v (.bool (false)))),.one (.d (.v (.int .i64 (0))))]) ?_ rfl;have hb0:bothE a b=0:=ω;have hm:meetB a b=(false):=by
    unfold meetB;rw[hb0];revert e2;cases bey a b<;>cases bey b a<;>intro e2<;>first|rfl|(simp at e2)
   rw[hm,hb0]
theorem ZwJ{a b:List (RV×RV)}(ha:∀p,p∈a->p.1.z<=260000000/\p.2.z<=260000000)(hb:∀p,p∈b->p.1.z<=260000000/\p.2.z<=260000000)(hna:a.length<=1073741824)(hnb:b.length<=1073741824)(k:∀n,n=bothE a b->K (two (bool (meetB a b)) (int n))):Ask 110 [vecs a,vecs b] K:=use (ZmV a b ha hb hna hnb) rfl (k _ rfl)
theorem Zew(x y z t:RV)(hx:x.z<=260000000)(hy:y.z<=260000000)(hz:z.z<=260000000)(ht:t.z<=260000000)(b:Bool)(hb:b=true↔bxOk x y z t):Spec Tryz.prog Tab 169 [box x y z t] (bool b):=by
 refine Zb Tryz.func169 Tryz.ntmps169 ?_;refine ZdL (x:=x) (y:=z) ω ω fun n9 h9=> fork (fun e1=>?_) (fun e1=>?_)
 .have a0:x.q<=z.q:=(Zd9 h9).1 (oT e1);refine ZdL (x:=y) (y:=t) ω ω fun n18 h18=> Eq.trans (b:=bool (decide (n18<=0))) ?_ rfl;have e:b=(decide (n18<=0)):=by
   cases b with
   |true=>exact(decide_eq_true ((Zd9 h18).2 (hb.1 rfl).2)).symm
   |false=>exact(decide_eq_false fun hh=>Bool.noConfusion (hb.2 ⟨a0,(Zd9 h18).1 hh⟩)).symm
  rw[e]
 .have a0:¬(x.q<=z.q):=fun hh=>oF e1 ((Zd9 h9).2 hh);refine Eq.trans (b:=bool false) ?_ rfl;have e:b=false:=by
   cases b with
   |true=>exact absurd (hb.1 rfl).1 a0
   |false=>rfl
  rw[e]
theorem Zf1{x y z t:RV}(hx:x.z<=260000000)(hy:y.z<=260000000)(hz:z.z<=260000000)(ht:t.z<=260000000)(k1:bxOk x y z t->K (bool true))(k0:¬bxOk x y z t->K (bool false)):Ask 169 [box x y z t] K:=by
 by_cases h:bxOk x y z t
 .exact use (Zew x y z t hx hy hz ht true ⟨fun _=>h,fun _=>rfl⟩) rfl (k1 h)
 .exact use (Zew x y z t hx hy hz ht false ⟨fun e=>Bool.noConfusion e,fun e=>absurd e h⟩) rfl (k0 h)
theorem ZtF{x y z t x2 y2 z2 t2:RV}(hx:x.z<=260000000)(hy:y.z<=260000000)(hz:z.z<=260000000)(ht:t.z<=260000000)(hx2:x2.z<=260000000)(hy2:y2.z<=260000000)(hz2:z2.z<=260000000)(ht2:t2.z<=260000000)(k:∀b,b=decide (bxMeet x y z t x2 y2 z2 t2)->K (bool b)):Ask 108 [box x y z t,box x2 y2 z2 t2] K:=use2 (k _ rfl) (by
 refine Zb Tryz.func108 Tryz.ntmps108 ?_;refine Zf1 ω ω ω ω (fun f6=>?_) (fun f6=>?_)
 .refine Zf1 ω ω ω ω (fun f9=>?_) (fun f9=>?_)
  .refine ZdL (x:=x) (y:=z2) ω ω fun n18 h18=> fork (fun e1=>?_) (fun e1=>?_)
   .have f21:x.q<=z2.q:=(Zd9 h18).1 (oT e1);refine ZdL (x:=x2) (y:=z) ω ω fun n28 h28=> fork (fun e2=>?_) (fun e2=>?_)
    .have f31:x2.q<=z.q:=(Zd9 h28).1 (oT e2);refine ZdL (x:=y) (y:=t2) ω ω fun n38 h38=> fork (fun e3=>?_) (fun e3=>?_)
     .have f41:y.q<=t2.q:=(Zd9 h38).1 (oT e3);refine ZdL (x:=y2) (y:=t) ω ω fun n48 h48=> Eq.trans (b:=bool (decide (n48<=0))) ?_ rfl;rw[show decide (bxMeet x y z t x2 y2 z2 t2)=(decide (n48<=0)) from decide_eq_decide.2 ⟨fun ⟨_,_,_,_,_,m6⟩=>(Zd9 h48).2 m6,fun hh=>⟨f6,f9,f21,f31,f41,(Zd9 h48).1 hh⟩⟩]
     .have f41:¬(y.q<=t2.q):=fun hh=>oF e3 ((Zd9 h38).2 hh);refine Eq.trans (b:=bool false) ?_ rfl;rw[show decide (bxMeet x y z t x2 y2 z2 t2)=false from decide_eq_false fun ⟨m1,m2,m3,m4,m5,m6⟩=>by first|exact f41 m1|exact f41 m2|exact f41 m3|exact f41 m4|exact f41 m5|exact f41 m6]
    .have f31:¬(x2.q<=z.q):=fun hh=>oF e2 ((Zd9 h28).2 hh);refine Eq.trans (b:=bool false) ?_ rfl;rw[show decide (bxMeet x y z t x2 y2 z2 t2)=false from decide_eq_false fun ⟨m1,m2,m3,m4,m5,m6⟩=>by first|exact f31 m1|exact f31 m2|exact f31 m3|exact f31 m4|exact f31 m5|exact f31 m6]
   .have f21:¬(x.q<=z2.q):=fun hh=>oF e1 ((Zd9 h18).2 hh);refine Eq.trans (b:=bool false) ?_ rfl;rw[show decide (bxMeet x y z t x2 y2 z2 t2)=false from decide_eq_false fun ⟨m1,m2,m3,m4,m5,m6⟩=>by first|exact f21 m1|exact f21 m2|exact f21 m3|exact f21 m4|exact f21 m5|exact f21 m6]
  .refine Eq.trans (b:=bool false) ?_ rfl;rw[show decide (bxMeet x y z t x2 y2 z2 t2)=false from decide_eq_false fun ⟨m1,m2,m3,m4,m5,m6⟩=>by first|exact f9 m1|exact f9 m2|exact f9 m3|exact f9 m4|exact f9 m5|exact f9 m6]
 .refine Eq.trans (b:=bool false) ?_ rfl;rw[show decide (bxMeet x y z t x2 y2 z2 t2)=false from decide_eq_false fun ⟨m1,m2,m3,m4,m5,m6⟩=>by first|exact f6 m1|exact f6 m2|exact f6 m3|exact f6 m4|exact f6 m5|exact f6 m6]
 ) rfl
theorem Zgf{P Q:Nat->poly.Pt}{n i m:Nat}:farTo P n Q i m=true↔∀j,j<m->poly.ori (P i) (P ((i+1)%n)) (Q j)<0:=by
 unfold farTo;rw[List.all_eq_true];have e:∀j,(outN P n i).1*((Q j).1-(P i).1)+(outN P n i).2*((Q j).2-(P i).2)=- poly.ori (P i) (P ((i+1)%n)) (Q j):=fun j=>by unfold outN poly.ori;grind
 constructor
 .intro h j hj;have:=oT (h j (List.mem_range.2 hj));rw[e]at this;grind
 .intro h j hj;have:=h j (List.mem_range.1 hj);exact decide_eq_true (by rw[e];grind)
theorem Zl8{a b:List (RV×RV)}:(bey a b).isSome=true↔poly.Beyond (pts a) a.length (pts b) b.length:=by
 unfold bey poly.Beyond;rw[List.find?_isSome];constructor
 .rintro⟨i,h1,h2⟩;exact⟨i,List.mem_range.1 h1,Zgf.1 h2⟩
 .rintro⟨i,h1,h2⟩;exact⟨i,List.mem_range.2 h1,Zgf.2 h2⟩
end
