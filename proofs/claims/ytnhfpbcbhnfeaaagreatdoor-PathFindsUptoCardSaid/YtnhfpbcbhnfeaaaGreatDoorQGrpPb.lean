/- Joined by wip/bundle.py: XPfdA XPfdB XPfdC XPfd4 XPfdD. -/
import Derived.Test.YtnhfpbcbhnfeaaaGreatDoorQGrpPa
import Derived.Test.YtnhfpbcbhnfeaaaGreatDoorQGrpU
set_option maxHeartbeats 16000000
set_option maxRecDepth 100000
open List (length_map length_set take_of_length_le mem_of_getElem? length_append length_singleton length_take)
namespace Go.Proofs.YtnhfpbcbhnfeaaaGreatDoor.eng
open Go.RowKit num mem seg q held ratA ratB ratC ratD ratE vars ratF trq bfs
section
variable{K:AV->Prop}
theorem Zub(l m:List Int)(_:l.length<=1099511627776)(hm:m.length<=1099511627776):Spec Tryz.prog Tab 28 [Xl intD l,Xl intD m] (bool (decide (l=m))):=by
 have hLl:(l.map intD).length=l.length:=length_map ..;have hLm:(m.map intD).length=m.length:=length_map ..;refine Zb Tryz.func28 Tryz.ntmps28 ?_;refine⟨fun e1=>?_,fun e1=>?_⟩
 .have a2:((l.map intD).length:Int)≠((m.map intD).length:Int):=ZO e1;refine Eq.trans (b:=bool false) ?_ rfl;rw[decide_eq_false (fun e=>by subst e;omega)]
 .have a2:¬(((l.map intD).length:Int)≠((m.map intD).length:Int)):=fun hh=>hh (ZP e1);refine⟨Nat,fun i=>[(0,Xl intD l),(1,Xl intD m),(12,int ((l.map intD).length:Int)),(13,int (i:Int))],
   fun i=>[],fun i=>i<=l.length/\∀(j:Nat)(x y:Int),j<i->l[j]? =some x->m[j]? =some y->x=y,fun i=>l.length-i,0,?_,⟨Nat.zero_le _,fun j x y h=>ω⟩,fun i hs=>?_⟩
  .exact ωe
  have g1:=hs.1;have g2:=hs.2;refine⟨fun e2=>?_,fun e2=>?_⟩
  .have a3:(i:Int)<((l.map intD).length:Int):=oT e2;refine Zm (l:=l) (i:=i) ωm fun x18 a0=> k_ix i _ ωf (Zd a0) rfl<|Zm (l:=m) (i:=i) ωm fun x22 a1=> k_ix i _ ωf (Zd a1) rfl ⟨ωr,⟨fun e3=>?_,fun e3=>?_⟩⟩
   .have a4:x18≠x22:=ZO e3;refine Eq.trans (b:=bool false) ?_ rfl;rw[decide_eq_false (fun e=>by subst e;have:=sI (a0.symm.trans a1);omega)]
   .have a4:¬(x18≠x22):=fun hh=>hh (ZP e3);refine⟨i+1,⟨ω,fun j x y hj hx hy=>by
     by_cases e:j=i
     .subst e;obtain rfl:=sI (a0.symm.trans hx);obtain rfl:=sI (a1.symm.trans hy);omega
     .exact g2 j x y ω hx hy⟩,by simp only;omega,?_⟩
    exact ωE
  .have a3:¬((i:Int)<((l.map intD).length:Int)):=oF e2;refine Eq.trans (b:=bool true) ?_ rfl;rw[decide_eq_true (Zq6 ω fun j x y hj=>g2 j x y ω)]
theorem ZwN{l m:List Int}(hn:l.length<=1099511627776)(hm:m.length<=1099511627776)(k:K (bool (decide (l=m)))):Ask 28 [Xl intD l,Xl intD m] K:=use (Zub l m hn hm) rfl k
theorem Zkd(l:List Int)(hp:0<l.length)(hn:l.length<=1048576):SpecR Tryz.prog Tab 77 [Xl intD l] 3 1 (l.map intD):=by
 have hLl:(l.map intD).length=l.length:=length_map ..;have hne:List.map intD l≠ []:=fun h=>by rw[List.map_eq_nil_iff]at h;subst h;simp at hp
 refine ZqY Tryz.func77 rfl rfl Tryz.ntmps77 rfl ωr rfl rfl ?_;exact⟨_,⟨⟨_,Tryz.underlying61⟩,hne,rfl⟩,⟨fun e=>absurd e ωd,fun _=>⟨⟨(by rw[hLl];exact hp),(by intro r hr;simp at hr),(Zcr fun _=>rfl),(by show (0+(l.map intD).length)*8<=_;(simp only[length_map];omega)),(by show 0+(l.map intD).length<=_;(simp only[length_map];omega))⟩,rfl⟩⟩⟩
theorem Zly{l:List Int}(hp:0<l.length)(hn:l.length<=1048576)(k:K (.new 3 1 (l.map intD))):Ask 77 [Xl intD l] K:=useN (Zkd l hp hn) k
theorem Zgo(s:Int)(l:List Int)(hn:l.length<=1048576):SeqSpec Tryz.prog Tab 111 [[D.list (l.map intD)], [D.v (.int .i64 (s))]] (besE s l):=by
 have hLl:(l.map intD).length=l.length:=length_map ..;refine fn_Y [50] Tryz.func111 rfl rfl Tryz.ntmps111 rfl ωr rfl fun yL=>?_;refine⟨Nat,fun i=>[(0,.val (.one (.d (.v (.func (.yield yL) #[] #[]))))),(1,.val (.one (.ref [D.list (l.map intD)]))),(2,.val (.one (.ref [D.v (.int .i64 (s))]))),(9,Xl intD l),(10,int ((l.map intD).length:Int)),(11,int (i:Int))],
  fun i=>[],fun i=>some (besU s l (2*i)).length,fun i=>i<=l.length,fun i=>l.length-i,0,?_,rfl,Nat.zero_le _,fun i hs=>?_⟩
 .exact ωe
 refine⟨fun e1=>?_,fun e1=>?_⟩
 .have a1:(i:Int)<((l.map intD).length:Int):=oT e1;refine Zm (l:=l) (i:=i) ωm fun x14 a0=>?_;refine k_ix i _ ωf (Zd a0) rfl ?_;refine⟨Nat,fun j=>[(0,.val (.one (.d (.v (.func (.yield yL) #[] #[]))))),(1,.val (.one (.ref [D.list (l.map intD)]))),(2,.val (.one (.ref [D.v (.int .i64 (s))]))),(4,int (i:Int)),(5,int x14),(9,Xl intD l),(10,int ((l.map intD).length:Int)),(11,int (i:Int)),(20,.val (.one (.full ([[D.v (.int .i64 (IntKind.i64.wrap (x14-1)))], [D.v (.int .i64 (IntKind.i64.wrap (x14+1)))]])))),(21,int 2),(22,int (j:Int))],
   fun j=>[],fun j=>some (besU s l (2*i+j)).length,fun j=>j<=2,fun j=>2-j,0,?_,rfl,Nat.zero_le _,fun j hs=>?_⟩
  .exact ωe
  refine⟨fun e2=>?_,fun e2=>?_⟩
  .have a2:(j:Int)<2:=oT e2;refine k_ix j _ ωf (ZuI _ _ ω) rfl<|fork (fun e3=>?_) (fun e3=>?_)
   .have a3:x14<0:=oT e3;exact⟨fun _=>⟨j+1,ω,by simp only;omega,(congrArg some (Zhw a0 ω (fun h=>by obtain⟨h1,h2,h3,h4⟩:=h;omega)).symm),ωE⟩,fun e=>absurd e ωd⟩
   .have a3:¬(x14<0):=oF e3;refine fork (fun e4=>?_) (fun e4=>?_)
    .have a4:x14 >s:=oT e4;exact⟨fun _=>⟨j+1,ω,by simp only;omega,(congrArg some (Zhw a0 ω (fun h=>by obtain⟨h1,h2,h3,h4⟩:=h;omega)).symm),ωE⟩,fun e=>absurd e ωd⟩
    .have a4:¬(x14 >s):=oF e4;refine fork (fun e5=>?_) (fun e5=>?_)
     .have a5:nbW x14 j<0:=oT e5;exact⟨fun _=>⟨j+1,ω,by simp only;omega,(congrArg some (Zhw a0 ω (fun h=>by obtain⟨h1,h2,h3,h4⟩:=h;omega)).symm),ωE⟩,fun e=>absurd e ωd⟩
     .have a5:¬(nbW x14 j<0):=oF e5;refine⟨fun e6=>?_,fun e6=>?_⟩
      .have a6:nbW x14 j >s:=oT e6;exact⟨j+1,ω,by simp only;omega,(congrArg some (Zhw a0 ω (fun h=>by obtain⟨h1,h2,h3,h4⟩:=h;omega)).symm),ωE⟩
      .have a6:¬(nbW x14 j >s):=oF e6;refine Zly ω ω<|k_at_own' i ωf (by first|omega|(simp only[length_set];omega)|(simp;omega)) ⟨by first|omega|(simp only[length_set];omega)|(simp;omega),⟨rfl,?_⟩⟩;have hok:nbOk s x14 j:=⟨ω,ω,ω,ω⟩;refine⟨rfl,ωr,rfl,(besU s l (2*i+j)).length, [D.list ((l.map intD).set i [D.v (.int .i64 (nbW x14 j))])],rfl,(Zxt a0 ω hok),rfl,?_,?_⟩
       .exact⟨fun e=>absurd e ωd,fun _=>⟨j+1,ω,by simp only;omega,(congrArg some (Zup a0 ω hok).symm),ωE⟩⟩
       .exact⟨fun _=>.inr rfl,fun e=>absurd e ωd⟩
  .have a2:¬((j:Int)<2):=oF e2;obtain rfl:j=2:=ω;exact⟨i+1,ω,by simp only;omega,(congrArg (fun n=>some (besU s l n).length) ω),ωE⟩
 .have a1:¬((i:Int)<((l.map intD).length:Int)):=oF e1;obtain rfl:i=l.length:=ω;exact .inl (congrArg some (Zhx s l).symm)
theorem Zja(s:Int)(l:List Int):Spec Tryz.prog Tab 64 [int s,Xl intD l] (.val (.one (.d (.fn 111 [[D.list (l.map intD)], [D.v (.int .i64 (s))]])))):=by
 refine Zb Tryz.func64 Tryz.ntmps64 ?_;refine⟨[(2,.val (.one (.ref [D.v (.int .i64 (s))]))),(3,.val (.one (.ref [D.list (l.map intD)])))], [],?_,?_⟩
 .exact ωE
 refine Eq.trans (b:=.val (.one (.d (.fn 111 [[D.list (l.map intD)], [D.v (.int .i64 (s))]])))) ?_ rfl;rfl
def allOk(n s:Int):Prop:=1<=n/\n<=3/\1<=s/\s<=12
instance (n s:Int):Decidable (allOk n s):=inferInstanceAs (Decidable (_/\_))
def numF(n s:Int)(l:List Int):Int:=if allOk n s then spF n s l else 1
def numR(n s:Int)(l:List Int):Int:=if numF n s l=0 then numV (s+1) l else 0
theorem ZeO{n s:Int}{l:List Int}(h:allOk n s):numF n s l=spF n s l:=if_pos h
theorem Zg4{n s:Int}{l:List Int}(h:¬allOk n s):numF n s l=1:=if_neg h
theorem ZcK{n s v:Int}{l:List Int}(h:numF n s l=v)(hv:v≠0):numR n s l=0:=if_neg (by rw[h];exact hv)
theorem ZpB{n s:Int}{l:List Int}(h:numF n s l=0):numR n s l=numV (s+1) l:=if_pos h
theorem Zpz(n s:Int)(l:List Int)(_:l.length<=1048576):Spec Tryz.prog Tab 66 [int n,int s,Xl intD l] (.tup [.one (.d (.v (.int .i64 (numR n s l)))),.one (.d (.v (.int .i64 (numF n s l))))]):=by
 have hLl:(l.map intD).length=l.length:=length_map ..;refine Zb Tryz.func66 Tryz.ntmps66 ?_;refine fork (fun e1=>?_) (fun e1=>?_)
 .have a1:n<1:=oT e1;refine⟨fun _=> Eq.trans (b:=.tup [.one (.d (.v (.int .i64 (0)))),.one (.d (.v (.int .i64 (1))))]) ?_ rfl,fun e=>absurd e ωd⟩;have e:=Zg4 (n:=n) (s:=s) (l:=l) (fun h=>by obtain⟨h1,h2,h3,h4⟩:=h;omega);rw[ZcK e ωd,e]
 .have a1:¬(n<1):=oF e1;refine fork (fun e2=>?_) (fun e2=>?_)
  .have a2:n >3:=oT e2;refine⟨fun _=> Eq.trans (b:=.tup [.one (.d (.v (.int .i64 (0)))),.one (.d (.v (.int .i64 (1))))]) ?_ rfl,fun e=>absurd e ωd⟩;have e:=Zg4 (n:=n) (s:=s) (l:=l) (fun h=>by obtain⟨h1,h2,h3,h4⟩:=h;omega);rw[ZcK e ωd,e]
  .have a2:¬(n >3):=oF e2;refine fork (fun e3=>?_) (fun e3=>?_)
   .have a3:s<1:=oT e3;refine⟨fun _=> Eq.trans (b:=.tup [.one (.d (.v (.int .i64 (0)))),.one (.d (.v (.int .i64 (1))))]) ?_ rfl,fun e=>absurd e ωd⟩;have e:=Zg4 (n:=n) (s:=s) (l:=l) (fun h=>by obtain⟨h1,h2,h3,h4⟩:=h;omega);rw[ZcK e ωd,e]
   .have a3:¬(s<1):=oF e3;refine fork (fun e4=>?_) (fun e4=>?_)
    .have a4:s >12:=oT e4;refine⟨fun _=> Eq.trans (b:=.tup [.one (.d (.v (.int .i64 (0)))),.one (.d (.v (.int .i64 (1))))]) ?_ rfl,fun e=>absurd e ωd⟩;have e:=Zg4 (n:=n) (s:=s) (l:=l) (fun h=>by obtain⟨h1,h2,h3,h4⟩:=h;omega);rw[ZcK e ωd,e]
    .have a4:¬(s >12):=oF e4;refine⟨fun e5=>?_,fun e5=>?_⟩
     .have a5:((l.map intD).length:Int)≠n:=ZO e5;refine Eq.trans (b:=.tup [.one (.d (.v (.int .i64 (0)))),.one (.d (.v (.int .i64 (1))))]) ?_ rfl;have e:numF n s l=1:=(ZeO ⟨ω,ω,ω,ω⟩).trans (ZzC ω);rw[ZcK e ωd,e]
     .have a5:¬(((l.map intD).length:Int)≠n):=fun hh=>hh (ZP e5);have hok:allOk n s:=⟨ω,ω,ω,ω⟩;have hl3:l.length<=3:=ω;refine⟨Nat,fun i=>[(1,int s),(8,int (numV (s+1) (l.take i))),(31,Xl intD l),(32,int ((l.map intD).length:Int)),(33,int (i:Int))],
       fun i=>[],fun i=>i<=l.length/\(0<=numV (s+1) (l.take i)/\numV (s+1) (l.take i)<13^i)/\∀(j:Nat)(k:Int),j<i->l[j]? =some k->0<=k/\k<=s,fun i=>l.length-i,0,?_,⟨Nat.zero_le _,by simp[numV],fun j k h=>ω⟩,fun i hs=>?_⟩
      .exact ωe
      have g1:=hs.1;have gv:=hs.2.1;have g2:=hs.2.2;have hp13:=pow13 (i:=i) ω;refine⟨fun e6=>?_,fun e6=>?_⟩
      .have a6:(i:Int)<((l.map intD).length:Int):=oT e6;refine Zm (l:=l) (i:=i) ωm fun x35 a0=> k_ix i _ ωf (Zd a0) rfl<|fork (fun e7=>?_) (fun e7=>?_)
       .have a7:x35<0:=oT e7;refine⟨fun _=> Eq.trans (b:=.tup [.one (.d (.v (.int .i64 (0)))),.one (.d (.v (.int .i64 (17))))]) ?_ rfl,fun e=>absurd e ωd⟩;have e:numF n s l=17:=(ZeO hok).trans (ZuO ω a0 ω);rw[ZcK e ωd,e]
       .have a7:¬(x35<0):=oF e7;refine⟨fun e8=>?_,fun e8=>?_⟩
        .have a8:x35 >s:=oT e8;refine Eq.trans (b:=.tup [.one (.d (.v (.int .i64 (0)))),.one (.d (.v (.int .i64 (17))))]) ?_ rfl;have e:numF n s l=17:=(ZeO hok).trans (ZuO ω a0 ω);rw[ZcK e ωd,e]
        .have a8:¬(x35 >s):=oF e8;have hst:=num_step (i:=i) gv.1 gv.2 (k:=x35) (s:=s) ω ω;have hp14:=pow13 (i:=i+1) ω;have hmul:0<=numV (s+1) (l.take i)*(s+1):=Int.mul_nonneg gv.1 ω;refine⟨i+1,⟨ω,by rw[ZeN a0];exact hst,fun j k hj hk=>by
          by_cases e:j=i
          .subst e;obtain rfl:=sI (a0.symm.trans hk);omega
          .exact g2 j k ω hk⟩,by simp only;omega,?_⟩
         constructor<;>(repeat' apply And.intro)<;>first|exact ωq|exact congrArg (fun n:Int=>D.v (.int .i64 n)) (by rw[ZeN a0,wrap64 (s+1) ω ω,wrap64 _ ω ω,wrap64 _ ω ω])|exact congrArg (fun n:Int=>D.v (.int .i64 n)) (by rw[ZeN a0,wrap64 (s+1) ω ω,wrap64 (_*_) ω ω,wrap64 _ ω ω])
      .have a6:¬((i:Int)<((l.map intD).length:Int)):=oF e6;refine Eq.trans (b:=.tup [.one (.d (.v (.int .i64 (numV (s+1) (l.take i))))),.one (.d (.v (.int .i64 (0))))]) ?_ rfl;have e:numF n s l=0:=(ZeO hok).trans (ZxZ ω (ZwY fun j k hj=>g2 j k ω));rw[ZpB e,e,take_of_length_le ω]
theorem ZkQ{f:FuncId}{cs R:List D}{args:List AV}{r:AV}(h:Spec Tryz.prog Tab f (.val (.one (.ref cs))::args) r):Spec Tryz.prog Tab f (.val (.one (.ref (cs++R)))::args) r:=by
 refine⟨h.1,fun w I vs hG hI hrel=>?_⟩
 cases vs with
 |nil=>have:=hrel.1;simp at this
 |cons v vs=>
  obtain⟨h1,h2⟩:=hrel.of_cons;obtain⟨b,off,hb,e,hc⟩:=h1;exact h.2 w I (v::vs) hG hI (h2.cons ⟨b,off,hb,e,fun j d hj=>hc j d (by rw[List.getElem?_append_left (gS hj).1];exact hj)⟩)
theorem Zs7(A:ArmV)(Wl:List (List (RV×RV)))(s:Int)(l:List Int)(hn:l.length<=1048576):Spec Tryz.prog Tab 21 [.val (.one (.ref (aD A [D.list (Wl.map rdvs),D.v (.int .i64 (s))]))),Xl intD l] (int (numR ((A.links.map lk).length:Int) s l)):=by
 refine Zb Tryz.func21 Tryz.ntmps21 ?_;refine use (Zpz ((A.links.map lk).length:Int) s l ω) rfl ⟨ωr,Eq.trans (b:=int (numR ((A.links.map lk).length:Int) s l)) ?_ rfl⟩;rfl
theorem ZB{A:ArmV}(Wl:List (List (RV×RV))){s:Int}{l:List Int}{R:List D}(hA:armE A=0)(hs:1<=s/\s<=12)(hl:Vs A.links.length s l):Spec Tryz.prog Tab 21 [.val (.one (.ref ((aD A [D.list (Wl.map rdvs),D.v (.int .i64 (s))])++R))),Xl intD l] (int (numV (s+1) l)):=by
 obtain⟨h3,h4⟩:=Zy hA;have h0:A.links.length≠0:=fun e=>h4.1 (List.length_eq_zero_iff.1 e);have hm:(A.links.map lk).length=A.links.length:=length_map ..;have h:=Zs7 A Wl s l (by rw[hl.1];omega);have e:numF ((A.links.map lk).length:Int) s l=0:=(ZeO ⟨ω,ω,hs.1,hs.2⟩).trans (ZxZ (by rw[hm,hl.1]) hl.2);rw[ZpB e]at h;exact ZkQ h
theorem ZxH{A:ArmV}{s:Int}{l:List Int}(hA0:armE A=0)(hs:1<=s/\s<=12)(hl:Vs A.links.length s l):∀q,q∈vlF A s l A.links.length->qs q<=64:=by
 intro q hq;obtain⟨i,hi,rfl⟩:=List.mem_map.1 hq;have hi:=List.mem_range.1 hi;have hm:A.links[i]? =some A.links[i]:=gE hi;have hk:=ZK hA0 (mG hm);have h1:=ZM hk.2.1;have h2:=ZM hk.2.2.1;have z1:=A.links[i].low.z1;have z2:=A.links[i].high.z1;have hj:i<l.length:=by rw[hl.1];exact hi
 have hsp:=hl.2 l[i] (List.getElem_mem hj);unfold vlQ;rw[Zcd hm,Zjl (gE hj)];have e1:=ZR A.links[i].low.q ((A.links[i].high.q-A.links[i].low.q)*((l[i]:Rat)/(s:Rat)));have e2:=ZX (A.links[i].high.q-A.links[i].low.q) ((l[i]:Rat)/(s:Rat));have e3:=Zac A.links[i].high.q A.links[i].low.q;have e4:=ZbZ (l[i]:Rat) (s:Rat);have e5:=Zal (n:=l[i]) ω ω;have e6:=Zal (n:=s) ω ω;omega
theorem Zx6{A:ArmV}{s:Int}{l:List Int}(hA0:armE A=0)(hs:1<=s/\s<=12)(hl:Vs A.links.length s l):rvE A s l=0:=
 (ZoU (Zv6 hA0 hs)).trans (Zou (by rw[hl.1]) (ZuP fun j k hj hk=>by have:=hl.2 k (mG hk);omega))
theorem Zd0{A:ArmV}{s:Int}{l:List Int}(hA0:armE A=0)(hs:1<=s/\s<=12)(hl:Vs A.links.length s l):rvV A s l=vlF A s l A.links.length:=ZuW (Zx6 hA0 hs hl)
theorem ZsD{A:ArmV}{s:Int}(l:List Int)(hA0:armE A=0)(hs:1<=s/\s<=12)(hl:Vs A.links.length s l):(rvV A s l).length<=1048576/\∀q,q∈rvV A s l->qs q<=1048576:=by
 rw[Zd0 hA0 hs hl,Zbr];exact⟨by have:=(Zy hA0).1;omega,fun q hq=>Nat.le_trans (ZxH hA0 hs hl q hq) ω⟩
theorem Zyu(l:List Rat):List.map rd (l.map cn)=List.map rdc l:=by rw[List.map_map];rfl
theorem Zca(l:List Rat):((Xl rdc l):AV)= (Xl rd (l.map cn)):=congrArg (fun z=>AV.val (.one (.d (.list z)))) (Zyu l).symm
theorem ZqD{A:ArmV}{l m:List Rat}{Wl:List (List (RV×RV))}(hA:A.ok)(hl:l.length<=1048576/\∀q,q∈l->qs q<=1048576)(hm:m.length<=1048576/\∀q,q∈m->qs q<=1048576)(hW:Wl.length<=1048576/\∀m,m∈Wl->m.length<=1048576/\∀p,p∈m->p.1.z<=1048576/\p.2.z<=1048576)
 (k:K (.tup [.one (.d (.v (.bool (motB A (l.map cn) (m.map cn) Wl 2)))),.one (.d (.v (.int .i64 (motE A (l.map cn) (m.map cn) Wl 2))))])):Ask 19 [arm A,Xl rdc l,Xl rdc m,Xl rdvs Wl,int 2] K:=by
 rw[Zca l,Zca m];refine Zhe hA ⟨by rw[length_map];exact hl.1,fun x hx=>?_⟩ ⟨by rw[length_map];exact hm.1,fun x hx=>?_⟩ hW ωd fun b n hb hn=>by subst hb hn;exact k
 .obtain⟨q,hq,rfl⟩:=List.mem_map.1 hx;rw[cn_z];exact hl.2 q hq
 .obtain⟨q,hq,rfl⟩:=List.mem_map.1 hx;rw[cn_z];exact hm.2 q hq
theorem Zy4(A:ArmV)(Wl:List (List (RV×RV)))(s:Int)(u v:List Int)(hA:A.ok)(hA0:armE A=0)(hs:1<=s/\s<=12)(hu:Vs A.links.length s u)(hv:Vs A.links.length s v)(hW:Wl.length<=1048576/\∀m,m∈Wl->m.length<=1048576/\∀p,p∈m->p.1.z<=1048576/\p.2.z<=1048576):Spec Tryz.prog Tab 65 [.val (.one (.ref (aD A [D.list (Wl.map rdvs),D.v (.int .i64 (s))]))),Xl intD u,Xl intD v] (bool (motB A ((rvV A s u).map cn) ((rvV A s v).map cn) Wl 2)):=by
 have hn3:=(Zy hA0).1;have hu1:=hu.1;have hv1:=hv.1;refine Zb Tryz.func65 Tryz.ntmps65 ?_;refine ZiD u rfl hA ω fun n23 hk_23_1=>⟨ωr,ZiD v rfl hA ω fun n36 hk_36_1=>⟨ωr,ZqD (A:=A) (l:=rvV A s u) (m:=rvV A s v) (Wl:=Wl) hA (ZsD _ hA0 hs hu) (ZsD _ hA0 hs hv) hW ⟨ωr,Eq.trans (b:=bool (motB A ((rvV A s u).map cn) ((rvV A s v).map cn) Wl 2)) ?_ rfl⟩⟩⟩;rfl
def frS(A:ArmV)(Wl:List (List (RV×RV)))(s:Int)(u v:List Int):Bool:=provedB A (rowsL ((vlF A s u A.links.length).map cn) ((vlF A s v A.links.length).map cn) 2) Wl
theorem Zg7{A:ArmV}{Wl:List (List (RV×RV))}{l m:List RV}(hA0:armE A=0)(hw:wallsE Wl=0)(hl:l.length=A.links.length)(hm:m.length=A.links.length):motE A l m Wl 2=0:=by
 have h3:=(Zy hA0).1;refine ZdG.2 ⟨ZaG.2 ⟨hA0,by rw[hl]⟩,fun h=>?_,hw⟩;unfold splitBad at h;omega
theorem ZdO{A:ArmV}{Wl:List (List (RV×RV))}{s:Int}{u v:List Int}{R:List D}(hA:A.ok)(hA0:armE A=0)(hs:1<=s/\s<=12)(hu:Vs A.links.length s u)(hv:Vs A.links.length s v)(hW:Wl.length<=1048576/\∀m,m∈Wl->m.length<=1048576/\∀p,p∈m->p.1.z<=1048576/\p.2.z<=1048576)(hw:wallsE Wl=0):Spec Tryz.prog Tab 65 [.val (.one (.ref ((aD A [D.list (Wl.map rdvs),D.v (.int .i64 (s))])++R))),Xl intD u,Xl intD v] (bool (frS A Wl s u v)):=by
 have h:=Zy4 A Wl s u v hA hA0 hs hu hv hW;rw[Zd0 hA0 hs hu,Zd0 hA0 hs hv,ZeQ (Zg7 hA0 hw (by rw[length_map,Zbr]) (by rw[length_map,Zbr]))]at h;exact ZkQ h
end
open mpi
section
variable{K:AV->Prop}
theorem Zir(A:ArmV)(Wl:List (List (RV×RV)))(s:Int)(gl sr:List Int)(F:List (List Int×Nat))(hA:A.ok)(hA0:armE A=0)(hs4:0<=s/\s<=4)(hs1:1<=s)(hg:Vs A.links.length s gl)(hv:sr.length<=1048576)(hW:Wl.length<=1048576/\∀m,m∈Wl->m.length<=1048576/\∀p,p∈m->p.1.z<=1048576/\p.2.z<=1048576)(hw:wallsE Wl=0)(hF:Meas (nbS s) (frS A Wl s) sr [gl] [(gl,0)] F):SpecV Tryz.prog Tab 20 [.val (.one (.ptr 1000 0)),Xl intD gl,Xl intD sr] 71 (aD A [D.list (Wl.map rdvs),D.v (.int .i64 (s)),D.v (.map none)]) (.tup []) (aD A [D.list (Wl.map rdvs),D.v (.int .i64 (s)),D.map (farE s F) (farM s F)]):=by
 have hn3:=(Zy hA0).1;have hs12:1<=s/\s<=12:=⟨hs1,ω⟩;have hg1:=hg.1;refine ZzW 0 [1600017,1600049,1600059,1600067,1600074,400006] Tryz.func20 rfl rfl Tryz.ntmps20 rfl ωr rfl rfl rfl ?_;refine⟨int (numV (s+1) gl),⟨rfl,(ZB (R:=[D.v (.map none)]) Wl hA0 hs12 hg)⟩,?_⟩;refine⟨.tup [],.map (farE s [(gl,0)]) (farM s [(gl,0)]),⟨rfl,_,_,rfl,Zop gl⟩,?_⟩;refine⟨ωr,?_⟩;refine⟨(List (List Int)×List (List Int×Nat)×Nat),fun (row,far,d)=>[(0,.val (.one (.ptr 1000 0))),(2,Xl intD sr),(3,.val (.one (.ptr 3 0))),(6,Xl ilD row)],
  fun (row,far,d)=>[(3,.var 68 [.ptr 1000 0]),(14,.ext none (.map (farE s far) (farM s far))),(1000,.var 71 (aC A [.d (.list (Wl.map rdvs)),.d (.v (.int .i64 (s))),.mp 14]))],fun (row,far,d)=>LvlS A.links.length s (frS A Wl s) gl d row far/\Meas (nbS s) (frS A Wl s) sr row far F,fun (row,far,d)=>2*(126-far.length)+(if row= [] then 0 else 1),([gl], [(gl,0)],0),?_,⟨Zyv hg,hF⟩,fun zs hs=>?_⟩
 .exact ωE
 obtain⟨row,far,d⟩:=zs;have hL:=hs.1;have hM:=hs.2;have hlen:=hL.len hs4 hn3;have hLr:(row.map ilD).length=row.length:=length_map ..;have hsh:=hL.short;refine⟨fun e1=>?_,fun e1=>?_⟩
 .have a4:((row.map ilD).length:Int) >0:=oT e1;have hne:row≠ []:=fun e=>by subst e;simp at a4
  refine⟨Nat,fun i=>[(0,.val (.one (.ptr 1000 0))),(2,Xl intD sr),(3,.val (.one (.ptr 3 0))),(7,.val (.one (.ptr 7 0))),(26,Xl ilD row),(27,int ((row.map ilD).length:Int)),(28,int (i:Int))],
   fun i=>[(3,.var 68 [.ptr 1000 0]),(7,.var 76 [.row 80 0]),(14,.ext none (.map (farE s ((rowK s (frS A Wl s) row far i).1)) (farM s ((rowK s (frS A Wl s) row far i).1)))),(80,.row 61 1 0 (((rowK s (frS A Wl s) row far i).2).map ilD) true),(1000,.var 71 (aC A [.d (.list (Wl.map rdvs)),.d (.v (.int .i64 (s))),.mp 14]))],fun i=>i<=row.length/\∀(j:Nat)(x:List Int),j<i->row[j]? =some x->x≠sr,fun i=>row.length-i,0,?_,⟨Nat.zero_le _,fun j x h=>ω⟩,fun i hs=>?_⟩
  .constructor<;>(repeat' apply And.intro)<;>first|exact ωq|exact⟨_,_,congrArg (fun x:List (List Int×Nat)×List (List Int)=>Ob.row _ 1 0 (x.2.map ilD) true) (ZuX row far)⟩|(rw[ZuX];try exact rfl)
  have g1:=hs.1;have g2:=hs.2;refine⟨fun e2=>?_,fun e2=>?_⟩
  .have a5:(i:Int)<((row.map ilD).length:Int):=oT e2;refine Zm (l:=row) (i:=i) ωm fun x30 a0=> k_ix i _ ωf (Zd a0) rfl ?_;have hx1:=(hL.inRow hs4 hn3 a0 0).u.1;refine ZwN ω ω ⟨fun e3=>?_,fun e3=>?_⟩
   .have a2:x30=sr:=oT e3;have hFE:=Ztg hM (a2▸a0) g2;refine⟨Eq.trans (b:=.tup []) ?_ rfl,rfl,?_⟩
    .exact rfl
    .subst hFE;exact rfl
   .have a2:¬(x30=sr):=oF e3;refine use (Zja s x30) rfl ?_;refine⟨ωr,?_⟩;have hI0:=hL.inRow hs4 hn3 a0 0;have hu1:=hI0.u.1;refine⟨ωr,111, [[D.list (x30.map intD)], [D.v (.int .i64 s)]],besE s x30, [(0,.val (.one (.ptr 1000 0))),(2,Xl intD sr),(3,.val (.one (.ptr 3 0))),(7,.val (.one (.ptr 7 0))),(9,.val (.one (.ptr 9 0))),(26,Xl ilD row),(27,int ((row.map ilD).length:Int)),(28,int (i:Int)),(40,.val (.one (.d (.fn 111 [[D.list (x30.map intD)], [D.v (.int .i64 (s))]]))))],
     Nat,fun c=>[(3,.var 68 [.ptr 1000 0]),(7,.var 76 [.row 80 0]),(9,.var 61 [.d (.list (x30.map intD))]),(14,.ext none (.map (farE s ((stpK s (frS A Wl s) x30 (rowK s (frS A Wl s) row far i) c).1)) (farM s ((stpK s (frS A Wl s) x30 (rowK s (frS A Wl s) row far i) c).1)))),(80,.row 61 1 0 (List.map ilD ((stpK s (frS A Wl s) x30 (rowK s (frS A Wl s) row far i) c).2)) true),(1000,.var 71 (aC A [.d (.list (Wl.map rdvs)),.d (.v (.int .i64 (s))),.mp 14]))],fun c k=>c=k,0,rfl,(Zgo s x30 ω),(fun ds h=>Zl9 h),Zu4 ωr,?_,rfl,fun c k ds hds hs=>?_,fun c hs=>?_⟩
    .constructor<;>(repeat' apply And.intro)<;>first|exact ωq|(rw[ZxV];try exact rfl)|(simp;done)
    .subst hs;obtain⟨y,hy,rfl⟩:=Zma hds;have hI:=hL.inRow hs4 hn3 a0 c;have hyV:=(Za4 ω x30 y hI.u (mG hy)).1;have hy1:=hyV.1;have hn2:=hI.next;refine⟨int (numV (s+1) y),⟨rfl,(ZB (R:=[]) Wl hA0 hs12 hyV)⟩,⟨.tup [.one (.d (.v (.int .i64 ((((getF (stpK s (frS A Wl s) x30 (rowK s (frS A Wl s) row far i) c).1 y).getD 0:Nat):Int))))),.one (.d (.v (.bool ((getF (stpK s (frS A Wl s) x30 (rowK s (frS A Wl s) row far i) c).1 y).isSome))))],⟨_,_,rfl,(Zdb hs4.1 hI.spot hyV true),rfl⟩,⟨ωr,fork (fun e4=>?_) (fun e4=>?_)⟩⟩⟩
     .have a1:¬(((getF (stpK s (frS A Wl s) x30 (rowK s (frS A Wl s) row far i) c).1 y).isSome)=true):=fun hh=>Bool.false_ne_true ((Zbu e4).symm.trans hh);refine⟨bool (frS A Wl s y x30),⟨rfl,(ZdO (R:=[]) hA hA0 hs12 hyV hI.u hW hw)⟩,⟨fun e5=>?_,fun e5=>?_⟩⟩
      .have a3:frS A Wl s y x30=true:=e5;refine⟨int (numV (s+1) y),⟨rfl,(ZB (R:=[]) Wl hA0 hs12 hyV)⟩,⟨int (numV (s+1) x30),⟨rfl,(ZB (R:=[]) Wl hA0 hs12 hI.u)⟩,⟨int (d:Int),⟨_,_,rfl,(Zha hs4.1 hI.spot hI.u hI.at' false),rfl⟩,⟨.tup [],.map (farE s ((stpK s (frS A Wl s) x30 (rowK s (frS A Wl s) row far i) c).1++[(y,d+1)])) (farM s ((stpK s (frS A Wl s) x30 (rowK s (frS A Wl s) row far i) c).1++[(y,d+1)])),⟨rfl,_,_,rfl,(Zoo hs4.1 hI.spot hyV a1 hI.d)⟩,⟨ωr,⟨⟨row1 rfl,(by show ((List.map ilD ((stpK s (frS A Wl s) x30 (rowK s (frS A Wl s) row far i) c).2)).length+1)*24<=_;(simp only[length_map];omega)),(by show ((List.map ilD ((stpK s (frS A Wl s) x30 (rowK s (frS A Wl s) row far i) c).2)).length+1)<=_;(simp only[length_map];omega))⟩,?_⟩⟩⟩⟩⟩⟩;have hst:=(Zex (rowK s (frS A Wl s) row far i) hy).trans (Zos (fr:=(frS A Wl s)) a1 a3 hI.at');refine⟨c+1,rfl,?_⟩;constructor<;>(repeat' apply And.intro)<;>first|exact ωq|(rw[hst];done)|(rw[hst];exact List.map_append)|(simp;done)
      .have a3:¬(frS A Wl s y x30=true):=fun hh=>Bool.false_ne_true (e5.symm.trans hh);have hst:=(Zex (rowK s (frS A Wl s) row far i) hy).trans (ZhL (fr:=(frS A Wl s)) (.inr (Bool.eq_false_iff.2 a3)));refine⟨c+1,rfl,?_⟩;constructor<;>(repeat' apply And.intro)<;>first|exact ωq|rw[hst]|(simp;done)
     .have a1:¬(¬(((getF (stpK s (frS A Wl s) x30 (rowK s (frS A Wl s) row far i) c).1 y).isSome)=true)):=fun hh=>hh ((Zbv e4));refine⟨fun e=>absurd e ωd,fun _=>?_⟩;have hst:=(Zex (rowK s (frS A Wl s) row far i) hy).trans (ZhL (fr:=(frS A Wl s)) (.inl (nN a1)));refine⟨c+1,rfl,?_⟩;constructor<;>(repeat' apply And.intro)<;>first|exact ωq|rw[hst]|(simp;done)
    .have hcc:=ZsL (s:=s) (fr:=(frS A Wl s)) far a0 (k:=c) (by rw[hs,Zhx];exact Nat.le_refl _);refine⟨i+1,⟨ω,fun j x hj hx=>by
      by_cases e:j=i
      .subst e;obtain rfl:=sI (a0.symm.trans hx);exact a2
      .exact g2 j x ω hx⟩,by simp only;omega,?_⟩
     constructor<;>(repeat' apply And.intro)<;>first|exact ωq|rw[hcc]
  .have a5:¬((i:Int)<((row.map ilD).length:Int)):=oF e2;obtain rfl:i=row.length:=ω;exact⟨((rowK s (frS A Wl s) row far row.length).2,(rowK s (frS A Wl s) row far row.length).1,d+1),⟨(hL.next hs4 hn3 hne).1,ZpV hM hne g2⟩,hL.mu hs4 hn3 hne,ωE⟩
 .have a4:¬(((row.map ilD).length:Int) >0):=oF e1;have hrow:row= []:=List.length_eq_zero_iff.1 ω;subst hrow;have hFE:=Ztf hM;refine⟨Eq.trans (b:=.tup []) ?_ rfl,rfl,?_⟩
  .exact rfl
  .subst hFE;exact rfl
end
section
variable{K:AV->Prop}
theorem ZpD{x y:Operand}(w:World):(do eqGuard .eql 61 x y (.slice none 0 0) (.slice none 0 0);binOp .eql 61 (.slice none 0 0) (.slice none 0 0):Sem Value).run Tryz.prog w= .ok (.bool true) w:=by
 simp[eqGuard,binOp,run_equal_slice_nil w _ _ _ _ _ Tryz.underlying61]
theorem Zf8(x:Int):Spec Tryz.prog Tab 139 [int x] (bool false):=by
 refine Zb Tryz.func139 Tryz.ntmps139 ?_;refine Eq.trans (b:=bool (x !=x)) ?_ rfl;rw[show (x !=x)=false from by simp]
theorem Zrz(x y:Int):Spec Tryz.prog Tab 80 [int x,int y] (int (cmp1 x y)):=by
 refine Zb Tryz.func80 Tryz.ntmps80 ?_;refine use (Zf8 x) rfl<|use (Zf8 y) rfl ⟨fun e=>absurd e ωd,fun _=>⟨fun e=>absurd e ωd,fun _=>⟨fun e1=>?_,fun e1=>?_⟩⟩⟩
 .have a0:x<y:=oT e1;refine Eq.trans (b:=int (-1)) ?_ rfl;rw[show cmp1 x y=-1 from if_pos a0]
 .have a0:¬(x<y):=oF e1;refine⟨fun e2=>?_,fun e2=>?_⟩
  .have a1:x >y:=oT e2;refine Eq.trans (b:=int 1) ?_ rfl;rw[show cmp1 x y=1 from(if_neg a0).trans (if_pos ω)]
  .have a1:¬(x >y):=oF e2;refine Eq.trans (b:=int 0) ?_ rfl;rw[show cmp1 x y=0 from(if_neg a0).trans (if_neg ω)]
theorem ZiY(p q:List Int)(hp:p.length<=1048576)(hq:q.length<=1048576):Spec Tryz.prog Tab 32 [Xl intD p,Xl intD q] (int (cmpL p q)):=by
 have hLp:(p.map intD).length=p.length:=length_map ..;have hLq:(q.map intD).length=q.length:=length_map ..;refine Zb Tryz.func32 Tryz.ntmps32 ?_;refine⟨Nat,fun i=>[(0,Xl intD p),(1,Xl intD q),(9,Xl intD p),(10,int ((p.map intD).length:Int)),(11,int (i:Int))],
  fun i=>[],fun i=>i<=p.length/\i<=q.length/\cmpL p q=cmpL (p.drop i) (q.drop i),fun i=>p.length-i,0,?_,⟨Nat.zero_le _,Nat.zero_le _,rfl⟩,fun i hs=>?_⟩
 .exact ωe
 have g1:=hs.1;have g2:=hs.2.1;have g3:=hs.2.2;refine⟨fun e1=>?_,fun e1=>?_⟩
 .have a3:(i:Int)<((p.map intD).length:Int):=oT e1;refine Zm (l:=p) (i:=i) ωm fun x14 a0=> k_ix i _ ωf (Zd a0) rfl ⟨fun e2=>?_,fun e2=>?_⟩
  .have a4:(i:Int)>=((q.map intD).length:Int):=oT e2;refine Eq.trans (b:=int 1) ?_ rfl;rw[Zxl a0 ω g3]
  .have a4:¬((i:Int)>=((q.map intD).length:Int)):=oF e2;refine Zm (l:=q) (i:=i) ωm fun x22 a1=> k_ix i _ ωf (Zd a1) rfl<|use (Zrz x14 x22) rfl ⟨fun e3=>?_,fun e3=>?_⟩
   .have a2:cmp1 x14 x22≠0:=ZO e3;refine Eq.trans (b:=int (cmp1 x14 x22)) ?_ rfl;rw[Zxk a0 a1 g3 a2]
   .have a2:¬(cmp1 x14 x22≠0):=fun hh=>hh (ZP e3);exact⟨i+1,⟨ω,ω,Zrx a0 a1 g3 ω⟩,by simp only;omega,ωE⟩
 .have a3:¬((i:Int)<((p.map intD).length:Int)):=oF e1;refine⟨fun e4=>?_,fun e4=>?_⟩
  .have a5:((p.map intD).length:Int)<((q.map intD).length:Int):=oT e4;refine Eq.trans (b:=int (-1)) ?_ rfl;rw[Zuh (i:=i) ω ω g3]
  .have a5:¬(((p.map intD).length:Int)<((q.map intD).length:Int)):=oF e4;refine Eq.trans (b:=int 0) ?_ rfl;rw[Zxm (i:=i) ω ω g3]
theorem ZnY(A:ArmV)(Wl:List (List (RV×RV)))(s:Int)(gl sr:List Int)(F:List (List Int×Nat))(Dn:Nat)(hA:A.ok)(hA0:armE A=0)(hs4:0<=s/\s<=4)(hs1:1<=s)(hsr:Vs A.links.length s sr)(hW:Wl.length<=1048576/\∀m,m∈Wl->m.length<=1048576/\∀p,p∈m->p.1.z<=1048576/\p.2.z<=1048576)(hw:wallsE Wl=0)(hP:Srch (Egd (nbS s) (frS A Wl s)) (Vs A.links.length s) sr gl F)(hD:Dst (Egd (nbS s) (frS A Wl s)) sr gl Dn)(hD1:Dn<=124):Spec Tryz.prog Tab 23 [.val (.one (.ref (aD A [D.list (Wl.map rdvs),D.v (.int .i64 (s)),D.map (farE s F) (farM s F)]))),Xl intD sr] (Xl ilD (wlk (nbS s) (frS A Wl s) ltI F Dn sr)):=by
 have hn3:=(Zy hA0).1;have hn0:A.links.length≠0:=fun e=>(Zy hA0).2.1 (List.length_eq_zero_iff.1 e);have hs12:1<=s/\s<=12:=⟨hs1,ω⟩;have hs0:=hsr.1;refine ZzX [12,1500006] Tryz.func23 rfl rfl Tryz.ntmps23 rfl ωr rfl rfl ?_;refine⟨trivial,⟨[(1,Xl intD sr),(2,.val (.one (.ptr 2 0))),(5,.val (.one (.row 12 0)))], [(2,.var 68 [.ref (aD A [D.list (Wl.map rdvs),D.v (.int .i64 (s)),D.map (farE s F) (farM s F)])]),(12,.row 61 1 0 ([[D.list (sr.map intD)]]) true)],?_,?_⟩⟩
 .exact ωE
 refine⟨(List (List Int)×List Int×Nat),fun (o,u,d)=>[(2,.val (.one (.ptr 2 0))),(5,.val (.one (.row 12 0))),(6,.val (.one (.ptr 6 0)))],
  fun (o,u,d)=>[(2,.var 68 [.ref (aD A [D.list (Wl.map rdvs),D.v (.int .i64 (s)),D.map (farE s F) (farM s F)])]),(6,.var 61 [.d (.list (List.map intD u))]),(12,.row 61 1 0 ((o++[u]).map ilD) true)],fun (o,u,d)=>OnW A.links.length s (frS A Wl s) F gl sr Dn o u d,fun (o,u,d)=>d,([],sr,Dn),?_,ZzJ hsr hD,fun zs hs=>?_⟩
 .exact ωE
 obtain⟨o,u,d⟩:=zs;have hO:=hs;have hu:=hO.spot;have hu1:=hu.1;have hod:=hO.len;have hat:=hO.at' hP hD;refine use (ZB (R:=[D.map (farE s F) (farM s F)]) Wl hA0 hs12 hu) rfl ⟨int (d:Int),⟨_,_,rfl,(Zha hs4.1 (fun x e h=>(hP.ok x e h).1) hu hat false),rfl⟩,⟨ωr,⟨fun e1=>?_,fun e1=>?_⟩⟩⟩
 .have a4:(d:Int) >0:=oT e1;obtain⟨e,rfl⟩:∃e,d=e+1:=⟨d-1,ω⟩;refine use (Zja s u) rfl ?_;refine⟨ωr,?_⟩;refine⟨ωr,111, [[D.list (u.map intD)], [D.v (.int .i64 s)]],besE s u, [(2,.val (.one (.ptr 2 0))),(5,.val (.one (.row 12 0))),(6,.val (.one (.ptr 6 0))),(7,.val (.one (.ptr 7 0))),(34,.val (.one (.d (.fn 111 [[D.list (u.map intD)], [D.v (.int .i64 (s))]]))))],
   (Nat×Option (List Int)),fun (c,b)=>[(2,.var 68 [.ref (aD A [D.list (Wl.map rdvs),D.v (.int .i64 (s)),D.map (farE s F) (farM s F)])]),(6,.var 61 [.d (.list (u.map intD))]),(7,.var 61 ([bestC b])),(12,.row 61 1 0 ((o++[u]).map ilD) true)],fun (c,b) k=>c=k/\b=lmK s (frS A Wl s) F u e c,(0,none),rfl,(Zgo s u ω),(fun ds h=>Zl9 h),Zu4 ωr,?_,⟨rfl,ZzR.symm⟩,fun zs k ds hds hs=>?_,fun zs hs=>?_⟩
  .exact ωF
  .obtain⟨c,b⟩:=zs;obtain⟨hk,hb⟩:=hs;subst hk;obtain⟨y,hy,rfl⟩:=Zma hds;have hyV:=(Za4 ω u y hu (mG hy)).1;have hy1:=hyV.1;have bestV:∀{b:List Int},some b=lmK s (frS A Wl s) F u e c->Vs A.links.length s b:=fun h=>ZzQ ω hu h;rcases b with _|b
   .refine use (ZB (R:=[D.map (farE s F) (farM s F)]) Wl hA0 hs12 hyV) rfl ⟨.tup [.one (.d (.v (.int .i64 ((((getF F y).getD 0:Nat):Int))))),.one (.d (.v (.bool ((getF F y).isSome))))],⟨_,_,rfl,(Zdb hs4.1 (fun x e h=>(hP.ok x e h).1) hyV true),rfl⟩,⟨ωr,fork (fun e2=>?_) (fun e2=>?_)⟩⟩
    .have a0:((getF F y).isSome)=true:=e2;refine use (ZB (R:=[D.map (farE s F) (farM s F)]) Wl hA0 hs12 hu) rfl ⟨int ((e+1:Nat):Int),⟨_,_,rfl,(Zha hs4.1 (fun x e h=>(hP.ok x e h).1) hu hat false),rfl⟩,fork (fun e3=>?_) (fun e3=>?_)⟩
     .have a1:(((getF F y).getD 0:Nat):Int)=IntKind.i64.wrap (((e+1:Nat):Int)-1):=ZaW e3;refine⟨_,⟨_,rfl,rfl,fun w=>ZpD w⟩,use (ZdO (R:=[D.map (farE s F) (farM s F)]) hA hA0 hs12 hu hyV hW hw) rfl ⟨ωr,⟨fun e4=>?_,fun e4=>?_⟩⟩⟩
      .have a2:frS A Wl s u y=true:=e4;exact⟨(c+1,some y),⟨rfl,Zp3 hy hb ((Zt5 ω a0).1 a1) (fun x hx=>by simp at hx) a2⟩,ωF⟩
      .have a2:¬(frS A Wl s u y=true):=fun hh=>Bool.false_ne_true (e4.symm.trans hh);exact⟨(c+1,none),⟨rfl,ZeT hy hb (fun h=>a2 h.2.2)⟩,ωF⟩
     .have a1:¬((((getF F y).getD 0:Nat):Int)=IntKind.i64.wrap (((e+1:Nat):Int)-1)):=ZaX e3;exact⟨ωr,⟨fun e=>absurd e ωd,fun _=>⟨(c+1,none),⟨rfl,ZeT hy hb (fun h=>a1 ((Zt5 ω a0).2 h.1))⟩,ωF⟩⟩⟩
    .have a0:¬(((getF F y).isSome)=true):=fun hh=>Bool.false_ne_true (e2.symm.trans hh);exact⟨ωr,⟨fun e=>absurd e ωd,fun _=>⟨(c+1,none),⟨rfl,ZeT hy hb (fun h=>a0 (by rw[h.1];rfl))⟩,ωF⟩⟩⟩
   .have hb1:=(bestV hb).1;have hne:List.map intD b≠ []:=fun h=>by rw[List.map_eq_nil_iff]at h;subst h;simp at hb1;omega
    refine use (ZB (R:=[D.map (farE s F) (farM s F)]) Wl hA0 hs12 hyV) rfl ⟨.tup [.one (.d (.v (.int .i64 ((((getF F y).getD 0:Nat):Int))))),.one (.d (.v (.bool ((getF F y).isSome))))],⟨_,_,rfl,(Zdb hs4.1 (fun x e h=>(hP.ok x e h).1) hyV true),rfl⟩,⟨ωr,fork (fun e5=>?_) (fun e5=>?_)⟩⟩
    .have a0:((getF F y).isSome)=true:=e5;refine use (ZB (R:=[D.map (farE s F) (farM s F)]) Wl hA0 hs12 hu) rfl ⟨int ((e+1:Nat):Int),⟨_,_,rfl,(Zha hs4.1 (fun x e h=>(hP.ok x e h).1) hu hat false),rfl⟩,fork (fun e6=>?_) (fun e6=>?_)⟩
     .have a1:(((getF F y).getD 0:Nat):Int)=IntKind.i64.wrap (((e+1:Nat):Int)-1):=ZaW e6;refine⟨_,⟨⟨_,Tryz.underlying61⟩,hne,rfl⟩,use (ZiY y b ω ω) rfl<|fork (fun e7=>?_) (fun e7=>?_)⟩
      .have a3:cmpL y b<0:=oT e7;refine use (ZdO (R:=[D.map (farE s F) (farM s F)]) hA hA0 hs12 hu hyV hW hw) rfl ⟨ωr,⟨fun e8=>?_,fun e8=>?_⟩⟩
       .have a2:frS A Wl s u y=true:=e8;exact⟨(c+1,some y),⟨rfl,Zp3 hy hb ((Zt5 ω a0).1 a1) (fun x hx=>by obtain rfl:=sI hx;exact(Zfk _ _).1 a3) a2⟩,ωF⟩
       .have a2:¬(frS A Wl s u y=true):=fun hh=>Bool.false_ne_true (e8.symm.trans hh);exact⟨(c+1,some b),⟨rfl,ZeT hy hb (fun h=>a2 h.2.2)⟩,ωF⟩
      .have a3:¬(cmpL y b<0):=oF e7;exact⟨ωr,⟨fun e=>absurd e ωd,fun _=>⟨(c+1,some b),⟨rfl,ZeT hy hb (fun h=>a3 ((Zfk _ _).2 (h.2.1 b rfl)))⟩,ωF⟩⟩⟩
     .have a1:¬((((getF F y).getD 0:Nat):Int)=IntKind.i64.wrap (((e+1:Nat):Int)-1)):=ZaX e6;exact⟨ωr,⟨fun e=>absurd e ωd,fun _=>⟨(c+1,some b),⟨rfl,ZeT hy hb (fun h=>a1 ((Zt5 ω a0).2 h.1))⟩,ωF⟩⟩⟩
    .have a0:¬(((getF F y).isSome)=true):=fun hh=>Bool.false_ne_true (e5.symm.trans hh);exact⟨ωr,⟨fun e=>absurd e ωd,fun _=>⟨(c+1,some b),⟨rfl,ZeT hy hb (fun h=>a0 (by rw[h.1];rfl))⟩,ωF⟩⟩⟩
  .obtain⟨c,b⟩:=zs;obtain⟨hk,hb⟩:=hs;obtain⟨y,hy,hN⟩:=hO.next ω hP hD;rw[Zwx (by rw[hk,Zhx];exact Nat.le_refl _),hy]at hb;rcases b with _|b
   .simp at hb
   obtain rfl:=sI hb;have hoL:=Zwg o u b;refine⟨⟨row1 rfl,(by show (((o++[u]).map ilD).length+1)*24<=_;(simp only[length_map,length_append,length_singleton];omega)),(by show (((o++[u]).map ilD).length+1)<=_;(simp only[length_map,length_append,length_singleton];omega))⟩,⟨[(2,.val (.one (.ptr 2 0))),(5,.val (.one (.row 12 0))),(82,Xl intD u)], [(2,.var 68 [.ref (aD A [D.list (Wl.map rdvs),D.v (.int .i64 (s)),D.map (farE s F) (farM s F)])]),(12,.row 61 1 0 (List.map ilD (o++[u])++[[D.list (b.map intD)]]) true)],?_,?_⟩⟩
   .exact ωE
   refine k_at_own' (o.length+1) ωf (by first|omega|(simp only[length_set];omega)|(simp;omega))<|ZeY [D.list (b.map intD)] _ (Zyk o u b) rfl rfl ⟨(o++[u],b,e),hN,by show e<e+1;omega,?_⟩;constructor<;>(repeat' apply And.intro)<;>first|exact ωq|exact Zs2 o u b
 .have a4:¬((d:Int) >0):=oF e1;obtain rfl:d=0:=ω;refine Eq.trans (b:=(Xl ilD (o++[u]))) ?_ rfl;rw[<-hO.last]
end
end Go.Proofs.YtnhfpbcbhnfeaaaGreatDoor.eng
namespace Go.Proofs.YtnhfpbcbhnfeaaaGreatDoor.bfs
open Go.Proofs.YtnhfpbcbhnfeaaaGreatDoor.eng Go.Proofs.YtnhfpbcbhnfeaaaGreatDoor.mpi
noncomputable def wantF(A:ArmV)(P Q:List RV)(Wl:List (List (RV×RV)))(s:Int):Int:=
 if fitsE A P=0 then (if fitsE A Q=0 then (if 1<=s/\s<=12 then wallsE Wl else 1) else fitsE A Q) else fitsE A P
section
variable{A:ArmV}{P Q:List RV}{Wl:List (List (RV×RV))}{s:Int}
theorem Zjc{i:Nat}{x:List RV}(hx: [P,Q][i]? =some x)(hb:∀(j:Nat)(y:List RV),j<i-> [P,Q][j]? =some y->fitsE A y=0)(h:¬fitsE A x=0):wantF A P Q Wl s=fitsE A x:=by
 unfold wantF
 match i,hx with
 |0,hx=>obtain rfl:=sI hx;rw[if_neg h]
 |1,hx=>
  obtain rfl:=sI hx;rw[if_pos (hb 0 P ω rfl),if_neg h]
 |i+2,hx=>simp at hx
theorem ZnV(hP:fitsE A P=0)(hQ:fitsE A Q=0)(h:¬(1<=s/\s<=12)):wantF A P Q Wl s=1:=by unfold wantF;rw[if_pos hP,if_pos hQ,if_neg h]
theorem ZhG(hP:fitsE A P=0)(hQ:fitsE A Q=0)(h:1<=s/\s<=12):wantF A P Q Wl s=wallsE Wl:=by unfold wantF;rw[if_pos hP,if_pos hQ,if_pos h]
theorem ZnU(h:wantF A P Q Wl s=0):fitsE A P=0/\fitsE A Q=0/\(1<=s/\s<=12)/\wallsE Wl=0:=by
 unfold wantF at h;split at h
 .rename_i h1;split at h
  .rename_i h2;split at h
   .rename_i h3;exact⟨h1,h2,h3,h⟩
   .simp at h
  .rename_i h2;exact absurd h h2
 .rename_i h1;exact absurd h h1
theorem Zfq(hf:fitsE A Q=0)(hs:1<=s/\s<=12):Vs A.links.length s (nrF A s Q A.links.length):=by
 obtain⟨hl,hA0⟩:=ZI hf;refine⟨ZjP ..,fun k hk=>?_⟩;obtain⟨i,hi,rfl⟩:=List.mem_map.1 hk;have hi:=List.mem_range.1 hi;have h:=ZjR hf (gE hi) (gE (by omega:i<Q.length)) hs.1 (n:=(s+1).toNat) ω;exact⟨h.1,h.2.1⟩
theorem Zo3(hf:fitsE A Q=0)(hs:1<=s/\s<=12):rnE A s Q=0:=(Zv4 (Zv6 (ZI hf).2 hs)).trans hf
theorem Zjy(hf:fitsE A Q=0)(hs:1<=s/\s<=12):rnV A s Q=nrF A s Q A.links.length:=ZuY (Zo3 hf hs)
theorem Zo4(hf:fitsE A Q=0)(hs:¬(1<=s/\s<=12)):rnE A s Q=1:=Zx7 (ZsR (ZI hf).2 hs) ωd
theorem V_rn(hf:fitsE A Q=0)(hs:1<=s/\s<=12):Vs A.links.length s (rnV A s Q):=by rw[Zjy hf hs];exact Zfq hf hs
theorem Zyt{l m:List RV}(hA0:armE A=0)(hl:l.length=A.links.length)(hm:m.length=A.links.length):motE A l m Wl 2=wallsE Wl:=by
 have h3:=(Zy hA0).1;refine Zg6 (ZaG.2 ⟨hA0,by rw[hl]⟩) fun h=>?_;unfold splitBad at h;omega
section
variable{n:Nat}{fr:List Int->List Int->Bool}{gl sr:List Int}
open Classical in
noncomputable def srF(s:Int)(fr:List Int->List Int->Bool)(sr gl:List Int):List (List Int×Nat):=if h:∃F,Meas (nbS s) fr sr [gl] [(gl,0)] F then Classical.choose h else []
theorem ZuM(hs:0<=s/\s<=4)(hn:n<=3)(hg:Vs n s gl):Meas (nbS s) fr sr [gl] [(gl,0)] (srF s fr sr gl):=by
 have h:∃F,Meas (nbS s) fr sr [gl] [(gl,0)] F:=ZpX (V:=Vs n s) (goal:=gl) (Za4 ω) (N:=125) (fun l hd hv=>Zbb hs hn l hd hv) _ 0 _ _ (Zwv hg) (Nat.le_refl _);unfold srF;rw[dif_pos h];exact Classical.choose_spec h
theorem Zec(hs:0<=s/\s<=4)(hn:n<=3)(hg:Vs n s gl)(hv:Vs n s sr):Srch (Egd (nbS s) fr) (Vs n s) sr gl (srF s fr sr gl):=
 ZpW (Za4 ω) hv (ZuM hs hn hg) 0 (Zwv hg)
theorem Zrc(hs:0<=s/\s<=4)(hn:n<=3)(hv:Vs n s sr){D:Nat}(hD:Dst (Egd (nbS s) fr) sr gl D):D<=124:=by
 have key:∀e,∃z,e<=D->Vs n s z/\Dst (Egd (nbS s) fr) z gl e:=fun e=>by
  by_cases he:e<=D
  .obtain⟨z,h1,h2⟩:=Dst.mid (Za4 ω) hv hD he;exact⟨z,fun _=>⟨h1,h2⟩⟩
  .exact⟨[],fun h=>absurd h he⟩
 have hz:=fun e=>Classical.choose_spec (key e);have h1:((List.range (D+1)).map fun e=>Classical.choose (key e)).Nodup:=by
  rw[List.Nodup,List.pairwise_map];refine List.Pairwise.imp_of_mem ?_ (List.nodup_range (n:=D+1));intro a b ha hb hne e;have ha:=List.mem_range.1 ha;have hb:=List.mem_range.1 hb;have h2:=(hz a ω).2;have h3:=(hz b ω).2;rw[e]at h2;exact hne (h2.uniq h3)
 have h2:=Zbb hs hn _ h1 fun x hx=>by
  obtain⟨e,he,rfl⟩:=List.mem_map.1 hx;exact(hz e (by have:=List.mem_range.1 he;omega)).1
 rw[length_map,List.length_range]at h2;omega
theorem ZxD(hs:s<=12){d:Nat}{x y:List Int}{l:List (List Int)}(h:Way (Egd (nbS s) fr) d x y l):Vs n s x->∀z,z∈l->Vs n s z:=by
 induction h with
 |nil x=>intro hx z hz;obtain rfl:=List.mem_singleton.1 hz;exact hx
 |cons e _ ih=>
  intro hx z hz;rcases List.mem_cons.1 hz with rfl|hz
  .exact hx
  .exact ih (Za4 hs _ _ hx e.1).1 z hz
noncomputable def gwyF(s:Int)(fr:List Int->List Int->Bool)(sr gl:List Int):List (List Int):=wlk (nbS s) fr ltI (srF s fr sr gl) ((getF (srF s fr sr gl) sr).getD 0) sr
theorem Zgz(hs:0<=s/\s<=4)(hn:n<=3)(hg:Vs n s gl)(hv:Vs n s sr)(h:(getF (srF s fr sr gl) sr).isSome=true):Dst (Egd (nbS s) fr) sr gl ((getF (srF s fr sr gl) sr).getD 0):=by
 obtain⟨d,hd⟩:=Option.isSome_iff_exists.1 h;rw[hd];exact((Zec hs hn hg hv).ok _ _ (Zdk hd)).2
theorem ZqN(hs:0<=s/\s<=4)(hn:n<=3)(hg:Vs n s gl)(hv:Vs n s sr){D:Nat}(hD:Dst (Egd (nbS s) fr) sr gl D):(getF (srF s fr sr gl) sr).isSome=true/\
  Way (Egd (nbS s) fr) D sr gl (gwyF s fr sr gl)/\∀l,Way (Egd (nbS s) fr) D sr gl l->pl (fun a b=>ltI a b=true) (gwyF s fr sr gl) l:=by
 have hP:=Zec (fr:=fr) hs hn hg hv;have hg':=Zdl hP.uniq (hP.all D hD sr D hv (Nat.le_refl _) hD);have:=ZhF ZcA Zcb (Za4 (n:=n) (s:=s) ω) hP hD D sr hv (Nat.le_refl _) hD;unfold gwyF;rw[hg'];exact⟨rfl,this⟩
theorem Zy3(hs:0<=s/\s<=4)(hn:n<=3)(hg:Vs n s gl)(hv:Vs n s sr){D:Nat}(hD:Dst (Egd (nbS s) fr) sr gl D):(∀z,z∈gwyF s fr sr gl->Vs n s z)/\(gwyF s fr sr gl).length=D+1:=by
 obtain⟨_,h2,_⟩:=ZqN (fr:=fr) hs hn hg hv hD;exact⟨ZxD ω h2 hv,h2.len⟩
end
def opnB(A:ArmV)(P Q:List RV)(Wl:List (List (RV×RV)))(s:Int):Bool:=
 provedB A (rowsL P ((vlF A s (nrF A s P A.links.length) A.links.length).map cn) 2) Wl&&provedB A (rowsL ((vlF A s (nrF A s Q A.links.length) A.links.length).map cn) Q 2) Wl
def fndP(A:ArmV)(P Q:List RV)(Wl:List (List (RV×RV)))(s:Int):Prop:=
 opnB A P Q Wl s=true/\(getF (srF s (frS A Wl s) (nrF A s P A.links.length) (nrF A s Q A.links.length)) (nrF A s P A.links.length)).isSome=true
open Classical in
noncomputable def fndE(A:ArmV)(P Q:List RV)(Wl:List (List (RV×RV)))(s:Int):Int:=if wantF A P Q Wl s=0 then (if fndP A P Q Wl s then 0 else 4) else wantF A P Q Wl s
noncomputable def fndL(A:ArmV)(P Q:List RV)(Wl:List (List (RV×RV)))(s:Int):List (List Rat):=
 [gdL P]++(gwyF s (frS A Wl s) (nrF A s P A.links.length) (nrF A s Q A.links.length)).map (fun x=>rvV A s x)++[gdL Q]
open Classical in
noncomputable def fndV(A:ArmV)(P Q:List RV)(Wl:List (List (RV×RV)))(s:Int):List (List Rat):=if wantF A P Q Wl s=0/\fndP A P Q Wl s then fndL A P Q Wl s else []
theorem Zw1(h:¬wantF A P Q Wl s=0):fndE A P Q Wl s=wantF A P Q Wl s/\fndV A P Q Wl s= []:=⟨if_neg h,if_neg fun g=>h g.1⟩
theorem Zbm{w:Int}(h:wantF A P Q Wl s=w)(hw:¬w=0):fndE A P Q Wl s=w/\fndV A P Q Wl s= []:=by subst h;exact Zw1 hw
theorem Zeq(h:wantF A P Q Wl s=0)(g:¬fndP A P Q Wl s):fndE A P Q Wl s=4/\fndV A P Q Wl s= []:=by
 unfold fndE;rw[if_pos h,if_neg g];exact⟨rfl,if_neg fun k=>g k.2⟩
theorem ZlL(h:wantF A P Q Wl s=0)(g:fndP A P Q Wl s):fndE A P Q Wl s=0/\fndV A P Q Wl s=fndL A P Q Wl s:=by
 unfold fndE;rw[if_pos h,if_pos g];exact⟨rfl,if_pos ⟨h,g⟩⟩
end
end Go.Proofs.YtnhfpbcbhnfeaaaGreatDoor.bfs
namespace Go.Proofs.YtnhfpbcbhnfeaaaGreatDoor.eng
open Go.RowKit num mem seg q held ratA ratB ratC ratD ratE vars ratF trq bfs mpi
section
variable{K:AV->Prop}
theorem Zii(q:List RV)(hq:q.length<=1048576/\∀x,x∈q->x.z<=1048576):Spec Tryz.prog Tab 22 [Xl rd q] (Xl rdc (gdL q)):=by
 have hLq:(q.map rd).length=q.length:=length_map ..;have hq1:=hq.1;refine Zb Tryz.func22 Tryz.ntmps22 ?_;refine⟨Nat,fun i=>[(3,.val (.one (.row 17 0))),(6,Xl rd q),(7,int ((q.map rd).length:Int)),(8,int (i:Int))],
  fun i=>[(17,.row 23 3 0 ((gdL (q.take i)).map rdc) true)],fun i=>i<=q.length,fun i=>q.length-i,0,?_,Nat.zero_le _,fun i hs=>?_⟩
 .exact ωe
 have hT:((gdL (q.take i)).map rdc).length<=1048576:=by rw[length_map,Zhk,length_take];omega
 refine⟨fun e1=>?_,fun e1=>?_⟩
 .have f9:(i:Int)<((q.map rd).length:Int):=oT e1;refine Zm (l:=q) (i:=i) ωm fun x10 a0=>?_;have hzx10:=hq.2 x10 (mG a0);refine k_ix i _ ωf (Zd a0) rfl<|k_of (0) ω ω fun q14 h14 z14=>?_;simp only[cn_z]at z14;refine Zd8 (x:=x10) (y:=cn q14) ω ωz fun q15 h15 z15=>?_;simp only[cn_z]at z15;simp only[cn_q]at h15;refine⟨⟨row1 rfl,(by show (((gdL (q.take i)).map rdc).length+1)*40<=_;omega),(by show (((gdL (q.take i)).map rdc).length+1)<=_;omega)⟩,⟨ωr,?_⟩⟩;have e15:q15=x10.q:=by rw[h15,h14,Rat.intCast_zero,Rat.add_zero]
  clear h15;subst e15;refine⟨i+1,ω,by simp only;omega,?_⟩;constructor<;>(repeat' apply And.intro)<;>first|exact ωq|(rw[ZlI _ a0];rfl)
 .have f9:¬((i:Int)<((q.map rd).length:Int)):=oF e1;refine Eq.trans (b:=(Xl rdc (gdL (q.take i)))) ?_ rfl;rw[take_of_length_le ω]
theorem Zif(q:List RV)(hq:q.length<=1048576/\∀x,x∈q->x.z<=1048576):Spec Tryz.prog Tab 29 [Xl rd q] (Xl rdc (gdL q)):=by
 have hLq:(q.map rd).length=q.length:=length_map ..;have hq1:=hq.1;refine Zb Tryz.func29 Tryz.ntmps29 ?_;refine⟨Nat,fun i=>[(3,.val (.one (.row 17 0))),(6,Xl rd q),(7,int ((q.map rd).length:Int)),(8,int (i:Int))],
  fun i=>[(17,.row 23 3 0 ((gdL (q.take i)).map rdc) true)],fun i=>i<=q.length,fun i=>q.length-i,0,?_,Nat.zero_le _,fun i hs=>?_⟩
 .exact ωe
 have hT:((gdL (q.take i)).map rdc).length<=1048576:=by rw[length_map,Zhk,length_take];omega
 refine⟨fun e1=>?_,fun e1=>?_⟩
 .have f9:(i:Int)<((q.map rd).length:Int):=oT e1;refine Zm (l:=q) (i:=i) ωm fun x10 a0=>?_;have hzx10:=hq.2 x10 (mG a0);refine k_ix i _ ωf (Zd a0) rfl<|Zq (x:=x10) ω fun q14 h14 z14=> ZtG (q:=q14) ω ⟨⟨row1 rfl,(by show (((gdL (q.take i)).map rdc).length+1)*40<=_;omega),(by show (((gdL (q.take i)).map rdc).length+1)<=_;omega)⟩,?_⟩;subst h14;refine⟨i+1,ω,by simp only;omega,?_⟩;constructor<;>(repeat' apply And.intro)<;>first|exact ωq|(rw[ZlI _ a0];rfl)
 .have f9:¬((i:Int)<((q.map rd).length:Int)):=oF e1;refine Eq.trans (b:=(Xl rdc (gdL (q.take i)))) ?_ rfl;rw[take_of_length_le ω]
theorem ZqC{A:ArmV}{l:List RV}{m:List Rat}{Wl:List (List (RV×RV))}(hA:A.ok)(hl:l.length<=1048576/\∀x,x∈l->x.z<=1048576)(hm:m.length<=1048576/\∀q,q∈m->qs q<=1048576)(hW:Wl.length<=1048576/\∀m,m∈Wl->m.length<=1048576/\∀p,p∈m->p.1.z<=1048576/\p.2.z<=1048576)
 (k:K (.tup [.one (.d (.v (.bool (motB A l (m.map cn) Wl 2)))),.one (.d (.v (.int .i64 (motE A l (m.map cn) Wl 2))))])):Ask 19 [arm A,Xl rd l,Xl rdc m,Xl rdvs Wl,int 2] K:=by
 rw[Zca m];refine Zhe hA hl ⟨by rw[length_map];exact hm.1,fun x hx=>?_⟩ hW ωd fun b n hb hn=>by subst hb hn;exact k
 obtain⟨q,hq,rfl⟩:=List.mem_map.1 hx;rw[cn_z];exact hm.2 q hq
theorem ZqB{A:ArmV}{l:List Rat}{m:List RV}{Wl:List (List (RV×RV))}(hA:A.ok)(hl:l.length<=1048576/\∀q,q∈l->qs q<=1048576)(hm:m.length<=1048576/\∀x,x∈m->x.z<=1048576)(hW:Wl.length<=1048576/\∀m,m∈Wl->m.length<=1048576/\∀p,p∈m->p.1.z<=1048576/\p.2.z<=1048576)
 (k:K (.tup [.one (.d (.v (.bool (motB A (l.map cn) m Wl 2)))),.one (.d (.v (.int .i64 (motE A (l.map cn) m Wl 2))))])):Ask 19 [arm A,Xl rdc l,Xl rd m,Xl rdvs Wl,int 2] K:=by
 rw[Zca l];refine Zhe hA ⟨by rw[length_map];exact hl.1,fun x hx=>?_⟩ hm hW ωd fun b n hb hn=>by subst hb hn;exact k
 obtain⟨q,hq,rfl⟩:=List.mem_map.1 hx;rw[cn_z];exact hl.2 q hq
theorem Za9(A:ArmV)(P Q:List RV)(Wl:List (List (RV×RV)))(s:Int)(hA:A.ok)(hP:P.length<=1048576/\∀x,x∈P->x.z<=1048576)(hQ:Q.length<=1048576/\∀x,x∈Q->x.z<=1048576)(hW:Wl.length<=1048576/\∀m,m∈Wl->m.length<=1048576/\∀p,p∈m->p.1.z<=1048576/\p.2.z<=1048576)(h4:fitsE A P=0->fitsE A Q=0->1<=s/\s<=12->wallsE Wl=0->s<=4):Spec Tryz.prog Tab 7 [arm A,Xl rd P,Xl rd Q,Xl rdvs Wl,int s] (.tup [.one (.d (.list ((fndV A P Q Wl s).map rdcs))),.one (.d (.v (.int .i64 (fndE A P Q Wl s))))]):=by
 refine ZvA [127,800111,1600119,1500128] Tryz.func7 rfl rfl Tryz.ntmps7 rfl ωr rfl rfl ?_;refine⟨Nat,fun i=>[(1,Xl rd P),(2,Xl rd Q),(3,Xl rdvs Wl),(4,int s),(5,.val (.one (.ptr 5 0))),(36,Xl rdrs [P,Q]),(37,int 2),(38,int (i:Int))],
  fun i=>[(5,.var 32 (aC A))],fun i=>i<=2/\∀(j:Nat)(y:List RV),j<i-> [P,Q][j]? =some y->fitsE A y=0,fun i=>2-i,0,?_,⟨Nat.zero_le _,fun j y h=>ω⟩,fun i hs=>?_⟩
 .exact ωE
 have g1:=hs.1;have g2:=hs.2;refine⟨fun e1=>?_,fun e1=>?_⟩
 .have aa:(i:Int)<2:=oT e1;refine Zm (l:=[P,Q]) (i:=i) (by show i<2;omega) fun x40 a0=>?_;have hzx40:x40.length<=1048576/\∀y,y∈x40->y.z<=1048576:=by
   have hm:=mG a0;simp only[List.mem_cons,List.not_mem_nil,or_false]at hm;rcases hm with rfl|rfl
   .exact hP
   .exact hQ
  refine k_ix i _ ωf (Zd a0) rfl<|ZqF (A:=A) (Q:=x40) hA (fun x hx=>Nat.le_trans (hzx40.2 x hx) ωd) fun n44 a1=>⟨fun e2=>?_,fun e2=>?_⟩
  .have a2:n44≠0:=ZO e2;refine Eq.trans (b:=.tup [.one (.d (.list ([]))),.one (.d (.v (.int .i64 (n44))))]) ?_ rfl;have h:=Zbm (Wl:=Wl) (s:=s) (Zjc a0 g2 (by rw[<-a1];exact a2)) (by rw[<-a1];exact a2);rw[h.1,h.2,a1];exact rfl
  .have a2:¬(n44≠0):=fun hh=>hh (ZP e2);refine⟨i+1,⟨ω,fun j y hj hy=>by
    by_cases e:j=i
    .subst e;obtain rfl:=sI (a0.symm.trans hy);rw[<-a1];exact nN a2
    .exact g2 j y ω hy⟩,by simp only;omega,?_⟩
   exact ωE
 .have aa:¬((i:Int)<2):=oF e1;obtain rfl:i=2:=ω;have hfP:fitsE A P=0:=g2 0 P ω rfl;have hfQ:fitsE A Q=0:=g2 1 Q ω rfl;have hA0:=(ZI hfP).2;refine Zql (A:=A) (Q:=P) hA hP.2 fun n53 a3=>⟨fun e3=>?_,fun e3=>?_⟩
  .have a4:n53≠0:=ZO e3;refine Eq.trans (b:=.tup [.one (.d (.list ([]))),.one (.d (.v (.int .i64 (n53))))]) ?_ rfl;have hnb:¬(1<=s/\s<=12):=fun h=>a4 (a3.trans (Zo3 hfP h));have h:=Zbm (Wl:=Wl) (ZnV hfP hfQ hnb) ωd;rw[h.1,h.2,a3,Zo4 hfP hnb];exact rfl
  .have a4:¬(n53≠0):=fun hh=>hh (ZP e3);have hs12:1<=s/\s<=12:=Classical.byContradiction fun h=>a4 (by rw[a3,Zo4 hfP h];decide);have hVu:=V_rn hfP hs12;have hVv:=V_rn hfQ hs12;have hUe:=Zjy hfP hs12;have hVe:=Zjy hfQ hs12;have hu1:=hVu.1;have hv1:=hVv.1;have hn3:=(Zy hA0).1;have hlu:(rvV A s (rnV A s P)).length=A.links.length:=by rw[Zd0 hA0 hs12 hVu,Zbr]
   have hlv:(rvV A s (rnV A s Q)).length=A.links.length:=by rw[Zd0 hA0 hs12 hVv,Zbr]
   have hmw:=Zyt (Wl:=Wl) (m:=(rvV A s (rnV A s P)).map cn) hA0 (ZI hfP).1 (by rw[length_map,hlu]);have hmv:=Zyt (Wl:=Wl) (l:=(rvV A s (rnV A s Q)).map cn) hA0 (by rw[length_map,hlv]) (ZI hfQ).1;refine Zql (A:=A) (Q:=Q) hA hQ.2 fun n63 hk_63_1=> ZiD (rnV A s P) rfl hA ω fun n70 hk_70_1=> ZiD (rnV A s Q) rfl hA ω fun n77 hk_77_1=> ZqC (A:=A) (l:=P) (Wl:=Wl) hA hP (ZsD _ hA0 hs12 hVu) hW ⟨fun e4=>?_,fun e4=>?_⟩
   .have a5:motE A P ((rvV A s (rnV A s P)).map cn) Wl 2≠0:=ZO e4;refine Eq.trans (b:=.tup [.one (.d (.list ([]))),.one (.d (.v (.int .i64 (motE A P ((rvV A s (rnV A s P)).map cn) Wl 2))))]) ?_ rfl;have h:=Zbm (ZhG (Wl:=Wl) hfP hfQ hs12) (by rw[<-hmw];exact a5);rw[h.1,h.2,hmw];exact rfl
   .have a5:¬(motE A P ((rvV A s (rnV A s P)).map cn) Wl 2≠0):=fun hh=>hh (ZP e4);have hw:wallsE Wl=0:=hmw.symm.trans (nN a5);have hs4:0<=s/\s<=4:=⟨ω,h4 hfP hfQ hs12 hw⟩;have hw0:=(ZhG (Wl:=Wl) hfP hfQ hs12).trans hw;have hop:opnB A P Q Wl s=(motB A P ((rvV A s (rnV A s P)).map cn) Wl 2&&motB A ((rvV A s (rnV A s Q)).map cn) Q Wl 2):=by rw[ZeQ (hmw.trans hw),ZeQ (hmv.trans hw),Zd0 hA0 hs12 hVu,Zd0 hA0 hs12 hVv,hUe,hVe];rfl
    refine ZqB (A:=A) (m:=Q) (Wl:=Wl) hA (ZsD _ hA0 hs12 hVv) hQ hW<|fork (fun e5=>?_) (fun e5=>?_)
    .have a6:motB A P ((rvV A s (rnV A s P)).map cn) Wl 2=true:=e5;refine⟨fun e6=>?_,fun e6=>?_⟩
     .have a7:motB A ((rvV A s (rnV A s Q)).map cn) Q Wl 2=true:=e6;have hpa:opnB A P Q Wl s=true:=by rw[hop,a6,a7];rfl
      refine⟨.tup [], aD A [D.list (Wl.map rdvs),D.v (.int .i64 (s)),D.map (farE s (srF s (frS A Wl s) (rnV A s P) (rnV A s Q))) (farM s (srF s (frS A Wl s) (rnV A s P) (rnV A s Q)))],⟨⟨rfl,rfl⟩,(Zir A Wl s (rnV A s Q) (rnV A s P) (srF s (frS A Wl s) (rnV A s P) (rnV A s Q)) hA hA0 hs4 hs12.1 hVv ω hW hw (ZuM hs4 hn3 hVv))⟩,⟨int (numV (s+1) (rnV A s P)),⟨rfl,(ZB (R:=[D.map (farE s (srF s (frS A Wl s) (rnV A s P) (rnV A s Q))) (farM s (srF s (frS A Wl s) (rnV A s P) (rnV A s Q)))]) Wl hA0 hs12 hVu)⟩,⟨.tup [.one (.d (.v (.int .i64 ((((getF (srF s (frS A Wl s) (rnV A s P) (rnV A s Q)) (rnV A s P)).getD 0:Nat):Int))))),.one (.d (.v (.bool ((getF (srF s (frS A Wl s) (rnV A s P) (rnV A s Q)) (rnV A s P)).isSome))))],⟨_,_,rfl,(Zdb hs4.1 (fun x e h=>((Zec hs4 hn3 hVv hVu).ok x e h).1) hVu true),rfl⟩,⟨ωr,⟨fun e7=>?_,fun e7=>?_⟩⟩⟩⟩⟩
      .have a8:¬(((getF (srF s (frS A Wl s) (rnV A s P) (rnV A s Q)) (rnV A s P)).isSome)=true):=fun hh=>Bool.false_ne_true ((Zbu e7).symm.trans hh);have hfp:¬fndP A P Q Wl s:=fun h=>by have h2:=h.2;rw[<-hUe,<-hVe]at h2;exact a8 h2
       refine Eq.trans (b:=.tup [.one (.d (.list ([]))),.one (.d (.v (.int .i64 (4))))]) ?_ rfl;have h:=Zeq hw0 hfp;rw[h.1,h.2];exact rfl
      .have a8:¬(¬(((getF (srF s (frS A Wl s) (rnV A s P) (rnV A s Q)) (rnV A s P)).isSome)=true)):=fun hh=>hh ((Zbv e7));have hfs:=nN a8;have hfp:fndP A P Q Wl s:=⟨hpa,by rw[<-hUe,<-hVe];exact hfs⟩;have hDd:=Zgz hs4 hn3 hVv hVu hfs;have hD1:=Zrc hs4 hn3 hVu hDd;have hwv:=Zy3 hs4 hn3 hVv hVu hDd;have hwl:=hwv.2;have hLw:((gwyF s (frS A Wl s) (rnV A s P) (rnV A s Q)).map ilD).length=(gwyF s (frS A Wl s) (rnV A s P) (rnV A s Q)).length:=length_map ..;refine use (Zii P hP) rfl ⟨trivial,⟨[(2,Xl rd Q),(4,int s),(5,.val (.one (.ptr 5 0))),(15,Xl intD (rnV A s P)),(26,.val (.one (.ref (aD A [D.list (Wl.map rdvs),D.v (.int .i64 (s)),D.map (farE s (srF s (frS A Wl s) (rnV A s P) (rnV A s Q))) (farM s (srF s (frS A Wl s) (rnV A s P) (rnV A s Q)))])))),(29,.val (.one (.row 127 0)))], [(5,.var 32 (aC A)),(127,.row 33 1 0 ([[D.list ((gdL P).map rdc)]]) true)],?_,?_⟩⟩
       .exact ωE
       refine use (ZnY A Wl s (rnV A s Q) (rnV A s P) (srF s (frS A Wl s) (rnV A s P) (rnV A s Q)) _ hA hA0 hs4 hs12.1 hVu hW hw (Zec hs4 hn3 hVv hVu) (Zgz hs4 hn3 hVv hVu hfs) (Zrc hs4 hn3 hVu (Zgz hs4 hn3 hVv hVu hfs))) rfl ?_;refine⟨Nat,fun i=>[(2,Xl rd Q),(4,int s),(5,.val (.one (.ptr 5 0))),(29,.val (.one (.row 127 0))),(130,Xl ilD (gwyF s (frS A Wl s) (rnV A s P) (rnV A s Q))),(131,int (((gwyF s (frS A Wl s) (rnV A s P) (rnV A s Q)).map ilD).length:Int)),(132,int (i:Int))],
        fun i=>[(5,.var 32 (aC A)),(127,.row 33 1 0 (List.map rdcs ([gdL P]++((gwyF s (frS A Wl s) (rnV A s P) (rnV A s Q)).take i).map (fun x=>rvV A s x))) true)],fun i=>i<=(gwyF s (frS A Wl s) (rnV A s P) (rnV A s Q)).length,fun i=>(gwyF s (frS A Wl s) (rnV A s P) (rnV A s Q)).length-i,0,?_,Nat.zero_le _,fun i hs=>?_⟩
       .exact ωE
       refine⟨fun e8=>?_,fun e8=>?_⟩
       .have ab:(i:Int)<(((gwyF s (frS A Wl s) (rnV A s P) (rnV A s Q)).map ilD).length:Int):=oT e8;refine Zm (l:=(gwyF s (frS A Wl s) (rnV A s P) (rnV A s Q))) (i:=i) ωm fun x134 a9=>?_;have hwx:=(hwv.1 x134 (mG a9)).1;refine k_ix i _ ωf (Zd a9) rfl<|ZiD x134 rfl hA ω fun n140 hk_140_1=>⟨⟨row1 rfl,(by show ((List.map rdcs ([gdL P]++((gwyF s (frS A Wl s) (rnV A s P) (rnV A s Q)).take i).map (fun x=>rvV A s x))).length+1)*24<=_;(simp only[length_map,length_append,length_take,length_singleton];omega)),(by show ((List.map rdcs ([gdL P]++((gwyF s (frS A Wl s) (rnV A s P) (rnV A s Q)).take i).map (fun x=>rvV A s x))).length+1)<=_;(simp only[length_map,length_append,length_take,length_singleton];omega))⟩,⟨i+1,ω,by simp only;omega,?_⟩⟩;constructor<;>(repeat' apply And.intro)<;>first|exact ωq|(rw[List.take_add_one,a9];simp[rdcs])
       .have ab:¬((i:Int)<(((gwyF s (frS A Wl s) (rnV A s P) (rnV A s Q)).map ilD).length:Int)):=oF e8;refine use (Zii Q hQ) rfl ⟨⟨row1 rfl,(by show ((List.map rdcs ([gdL P]++((gwyF s (frS A Wl s) (rnV A s P) (rnV A s Q)).take i).map (fun x=>rvV A s x))).length+1)*24<=_;(simp only[length_map,length_append,length_take,length_singleton];omega)),(by show ((List.map rdcs ([gdL P]++((gwyF s (frS A Wl s) (rnV A s P) (rnV A s Q)).take i).map (fun x=>rvV A s x))).length+1)<=_;(simp only[length_map,length_append,length_take,length_singleton];omega))⟩,Eq.trans (b:=.tup [.one (.d (.list (List.map rdcs ([gdL P]++((gwyF s (frS A Wl s) (rnV A s P) (rnV A s Q)).take i).map (fun x=>rvV A s x))++[[D.list ((gdL Q).map rdc)]]))),.one (.d (.v (.int .i64 (0))))]) ?_ rfl⟩;have h:=ZlL hw0 hfp;rw[h.1,h.2];unfold fndL;rw[<-hUe,<-hVe,take_of_length_le (show (gwyF s (frS A Wl s) (rnV A s P) (rnV A s Q)).length<=i by omega)];simp[rdcs]
     .have a7:¬(motB A ((rvV A s (rnV A s Q)).map cn) Q Wl 2=true):=fun hh=>Bool.false_ne_true (e6.symm.trans hh);have hfp:¬fndP A P Q Wl s:=fun h=>by have h1:=h.1;rw[hop,Bool.and_eq_true]at h1;exact a7 h1.2
      refine⟨int (numV (s+1) (rnV A s P)),⟨rfl,(ZB (R:=[D.v (.map none)]) Wl hA0 hs12 hVu)⟩,⟨.tup [.one (.d (.v (.int .i64 (0)))),.one (.d (.v (.bool (false))))],⟨_,_,rfl,(Zln true (numV (s+1) (rnV A s P))),rfl⟩,⟨ωr,⟨fun _=> Eq.trans (b:=.tup [.one (.d (.list ([]))),.one (.d (.v (.int .i64 (4))))]) ?_ rfl,fun e=>absurd e ωd⟩⟩⟩⟩;have h:=Zeq hw0 hfp;rw[h.1,h.2];exact rfl
    .have a6:¬(motB A P ((rvV A s (rnV A s P)).map cn) Wl 2=true):=fun hh=>Bool.false_ne_true (e5.symm.trans hh);refine⟨fun e=>absurd e ωd,fun _=>⟨int (numV (s+1) (rnV A s P)),⟨rfl,(ZB (R:=[D.v (.map none)]) Wl hA0 hs12 hVu)⟩,⟨.tup [.one (.d (.v (.int .i64 (0)))),.one (.d (.v (.bool (false))))],⟨_,_,rfl,(Zln true (numV (s+1) (rnV A s P))),rfl⟩,⟨ωr,⟨fun _=> Eq.trans (b:=.tup [.one (.d (.list ([]))),.one (.d (.v (.int .i64 (4))))]) ?_ rfl,fun e=>absurd e ωd⟩⟩⟩⟩⟩;have hfp:¬fndP A P Q Wl s:=fun h=>by have h1:=h.1;rw[hop,Bool.and_eq_true]at h1;exact a6 h1.1
     have h:=Zeq hw0 hfp;rw[h.1,h.2];exact rfl
end
