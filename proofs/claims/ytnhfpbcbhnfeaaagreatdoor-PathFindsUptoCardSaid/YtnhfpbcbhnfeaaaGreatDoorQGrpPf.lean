/- Joined by wip/bundle.py: XPfdE XPfdF XPfd7 XLawPfd. -/
import Derived.Test.YtnhfpbcbhnfeaaaGreatDoorQGrpPb
set_option maxHeartbeats 16000000
set_option maxRecDepth 100000
open List (mem_of_getElem? length_map map_set length_set length_append length_take length_singleton)
namespace Go.Proofs.YtnhfpbcbhnfeaaaGreatDoor.eng
open Go.RowKit num mem seg q held ratA ratB ratC ratD ratE vars ratF trq bfs mpi
section
variable{K:AV->Prop}
theorem ZnT(x l:List Int)(hx:x.length<=1048576)(hn:l.length<=1048576):Spec Tryz.prog Tab 33 [Xl intD x,.val (.one (.ref [D.list (l.map intD)]))] (bool (decide (x=l))):=by
 refine Zb Tryz.func33 Tryz.ntmps33 ?_;refine ZwN ω ω<|Eq.trans (b:=bool (decide (x=l))) ?_ rfl;rfl
def idxI(L:List (List Int))(l:List Int):Int:=match L.findIdx? (fun x=>decide (x=l)) with
 |some i=>(i:Int)
 |none=> -1
theorem ZwZ{L:List (List Int)}{l:List Int}{i:Nat}(h:L[i]? =some l)(hb:∀j,j<i->L[j]? ≠some l):idxI L l=(i:Int):=by
 obtain⟨hi,hv⟩:=gS h;have e:L.findIdx? (fun x=>decide (x=l))=some i:=by
  rw[List.findIdx?_eq_some_iff_getElem];refine⟨hi,by simp[hv],fun j hj=>?_⟩;have:=hb j hj;rw[gE ω]at this;simp only[decide_eq_true_eq];exact fun e=>this (by rw[e])
 unfold idxI;rw[e]
theorem ZqJ{L:List (List Int)}{l:List Int}(hb:∀j,j<L.length->L[j]? ≠some l):idxI L l=-1:=by
 have e:L.findIdx? (fun x=>decide (x=l))=none:=by
  rw[List.findIdx?_eq_none_iff];intro x hx;obtain⟨j,hj,e⟩:=List.getElem_of_mem hx;have:=hb j hj;rw[gE hj]at this;simp only[decide_eq_false_iff_not];exact fun e'=>this (by rw[e,e'])
 unfold idxI;rw[e]
theorem Zt4(L:List (List Int))(l:List Int):decide (idxI L l>=0)=decide (l∈L):=by
 by_cases h:l∈L
 .obtain⟨j,hj,e⟩:=List.getElem_of_mem h;unfold idxI
  cases e2:L.findIdx? (fun x=>decide (x=l)) with
  |some i=>simp[h]
  |none=>
   rw[List.findIdx?_eq_none_iff]at e2;have:=e2 l h;simp at this
 .rw[ZqJ (fun j hj e=>h (mG e))];simp[h]
theorem Zt3(L:List (List Int))(l:List Int)(hL:L.length<=1048576)(hx:∀x,x∈L->x.length<=1048576)(hn:l.length<=1048576):Spec Tryz.prog Tab 81 [Xl ilD L,.val (.one (.d (.fn 33 [[D.list (l.map intD)]])))] (int (idxI L l)):=by
 have hLl:(L.map ilD).length=L.length:=length_map ..;refine Zb Tryz.func81 Tryz.ntmps81 ?_;refine⟨Nat,fun i=>[(0,Xl ilD L),(1,.val (.one (.d (.fn 33 [[D.list (l.map intD)]])))),(7,int ((L.map ilD).length:Int)),(8,int (i:Int))],
  fun i=>[],fun i=>i<=L.length/\∀j,j<i->L[j]? ≠some l,fun i=>L.length-i,0,?_,⟨Nat.zero_le _,fun j h=>ω⟩,fun i hs=>?_⟩
 .exact ωe
 have g1:=hs.1;have g2:=hs.2;refine⟨fun e1=>?_,fun e1=>?_⟩
 .have f9:(i:Int)<((L.map ilD).length:Int):=oT e1;refine Zm (l:=L) (i:=i) ωm fun x14 a0=> k_ix i _ ωf (Zd a0) rfl<|use (ZnT x14 l (hx x14 (mG a0)) hn) rfl ⟨fun e2=>?_,fun e2=>?_⟩
  .have a1:x14=l:=oT e2;refine Eq.trans (b:=int (i:Int)) ?_ rfl;rw[ZwZ (i:=i) (by rw[a0,a1]) g2]
  .have a1:¬(x14=l):=oF e2;refine⟨i+1,⟨ω,fun j hj=>by
    by_cases e:j=i
    .subst e;intro hh;exact a1 (sI (a0.symm.trans hh))
    .exact g2 j ω⟩,by simp only;omega,?_⟩
   exact ωE
 .have f9:¬((i:Int)<((L.map ilD).length:Int)):=oF e1;refine Eq.trans (b:=int (-1)) ?_ rfl;rw[ZqJ fun j hj=>g2 j ω]
theorem ZlY(L:List (List Int))(l:List Int)(hL:L.length<=1048576)(hx:∀x,x∈L->x.length<=1048576)(hn:l.length<=1048576):Spec Tryz.prog Tab 34 [Xl ilD L,.val (.one (.d (.fn 33 [[D.list (l.map intD)]])))] (bool (decide (l∈L))):=by
 refine Zb Tryz.func34 Tryz.ntmps34 ?_;refine use (Zt3 L l hL hx hn) rfl<|Eq.trans (b:=bool (decide (idxI L l>=0))) ?_ rfl;rw[<-Zt4]
theorem ZiZ(L:List (List Int))(hp:0<L.length)(hn:L.length<=1048576):SpecR Tryz.prog Tab 35 [Xl ilD L] 61 1 (L.map ilD):=by
 have hLm:(L.map ilD).length=L.length:=length_map ..;have hne:List.map ilD L≠ []:=fun h=>by rw[List.map_eq_nil_iff]at h;subst h;simp at hp
 refine ZqY Tryz.func35 rfl rfl Tryz.ntmps35 rfl ωr rfl rfl ?_;exact⟨_,⟨⟨_,Tryz.underlying76⟩,hne,rfl⟩,⟨fun e=>absurd e ωd,fun _=>⟨⟨(by rw[hLm];exact hp),(by intro r hr;simp at hr),(Zcr fun _=>rfl),(by show (0+(L.map ilD).length)*24<=_;(simp only[length_map];omega)),(by show 0+(L.map ilD).length<=_;(simp only[length_map];omega))⟩,rfl⟩⟩⟩
theorem ZrG{s:Int}{l:List Int}{i j:Nat}{k:Int}(hk:l[i]? =some k)(hj:j<2)(h:nbOk s k j):
  List.map ilD (besU s l (2*i+(j+1)))=List.map ilD (besU s l (2*i+j))++[[D.list ((l.map intD).set i [D.v (.int .i64 (IntKind.i64.wrap (k+(if j=0 then -1 else 1))))])]]:=by
 rw[ZrF hk hj h,List.map_append,Zvb];simp[ilD,intD,map_set]
theorem ZrH(s:Int)(l:List Int)(hn:l.length<=1048576):SpecR Tryz.prog Tab 30 [int s,Xl intD l] 61 1 ((besU s l (2*l.length)).map ilD):=by
 have hLl:(l.map intD).length=l.length:=length_map ..;refine ZqY Tryz.func30 rfl rfl Tryz.ntmps30 rfl ωr rfl rfl ?_;refine⟨Nat,fun i=>[(0,int s),(1,Xl intD l),(5,.val (.one (.row 55 0))),(11,Xl intD l),(12,int ((l.map intD).length:Int)),(13,int (i:Int))],
  fun i=>[(55,.row 61 1 0 ((besU s l (2*i)).map ilD) true)],fun i=>i<=l.length,fun i=>l.length-i,0,?_,Nat.zero_le _,fun i hs=>?_⟩
 .exact ωe
 refine⟨fun e1=>?_,fun e1=>?_⟩
 .have a1:(i:Int)<((l.map intD).length:Int):=oT e1;refine Zm (l:=l) (i:=i) ωm fun x16 a0=>?_;refine k_ix i _ ωf (Zd a0) rfl ?_;refine⟨Nat,fun j=>[(0,int s),(1,Xl intD l),(5,.val (.one (.row 55 0))),(6,int (i:Int)),(7,int x16),(11,Xl intD l),(12,int ((l.map intD).length:Int)),(13,int (i:Int)),(18,.val (.one (.full ([[D.v (.int .i64 (-1))], [D.v (.int .i64 (1))]])))),(19,int 2),(20,int (j:Int))],
   fun j=>[(55,.row 61 1 0 ((besU s l (2*i+j)).map ilD) true)],fun j=>j<=2,fun j=>2-j,0,?_,Nat.zero_le _,fun j hs=>?_⟩
  .exact ωe
  have hnb:=Zvb x16 j;have hT:((besU s l (2*i+j)).map ilD).length<=2097152:=by rw[length_map];have:=Zkh s l (2*i+j);omega
  refine⟨fun e2=>?_,fun e2=>?_⟩
  .have a2:(j:Int)<2:=oT e2;refine k_ix j _ ωf (ZuI _ _ ω) rfl<|fork (fun e3=>?_) (fun e3=>?_)
   .have a3:x16>=0:=oT e3;refine fork (fun e4=>?_) (fun e4=>?_)
    .have a4:x16<=s:=oT e4;refine fork (fun e5=>?_) (fun e5=>?_)
     .have a5:IntKind.i64.wrap (x16+(if j=0 then -1 else 1))>=0:=oT e5;refine⟨fun e6=>?_,fun e6=>?_⟩
      .have a6:IntKind.i64.wrap (x16+(if j=0 then -1 else 1))<=s:=oT e6;refine Zly ω ω<|k_at_own' i ωf (by first|omega|(simp only[length_set];omega)|(simp;omega)) ⟨by first|omega|(simp only[length_set];omega)|(simp;omega),⟨⟨row1 rfl,(by show (((besU s l (2*i+j)).map ilD).length+1)*24<=_;omega),(by show (((besU s l (2*i+j)).map ilD).length+1)<=_;omega)⟩,?_⟩⟩;have hok:nbOk s x16 j:=⟨ω,ω,ω,ω⟩;refine⟨j+1,ω,by simp only;omega,?_⟩;constructor<;>(repeat' apply And.intro)<;>first|exact ωq|exact ZrG a0 ω hok
      .have a6:¬(IntKind.i64.wrap (x16+(if j=0 then -1 else 1))<=s):=oF e6;have hno:¬nbOk s x16 j:=fun h=>by obtain⟨h1,h2,h3,h4⟩:=h;omega
       refine⟨j+1,ω,by simp only;omega,?_⟩;constructor<;>(repeat' apply And.intro)<;>first|exact ωq|exact congrArg (List.map ilD) (Zbo a0 ω hno)|exact congrArg (List.map ilD) (Zbo a0 ω hno).symm
     .have a5:¬(IntKind.i64.wrap (x16+(if j=0 then -1 else 1))>=0):=oF e5;refine⟨fun e=>absurd e ωd,fun _=>?_⟩;have hno:¬nbOk s x16 j:=fun h=>by obtain⟨h1,h2,h3,h4⟩:=h;omega
      refine⟨j+1,ω,by simp only;omega,?_⟩;constructor<;>(repeat' apply And.intro)<;>first|exact ωq|exact congrArg (List.map ilD) (Zbo a0 ω hno)|exact congrArg (List.map ilD) (Zbo a0 ω hno).symm
    .have a4:¬(x16<=s):=oF e4;refine⟨fun e=>absurd e ωd,fun _=>?_⟩;have hno:¬nbOk s x16 j:=fun h=>by obtain⟨h1,h2,h3,h4⟩:=h;omega
     refine⟨j+1,ω,by simp only;omega,?_⟩;constructor<;>(repeat' apply And.intro)<;>first|exact ωq|exact congrArg (List.map ilD) (Zbo a0 ω hno)|exact congrArg (List.map ilD) (Zbo a0 ω hno).symm
   .have a3:¬(x16>=0):=oF e3;refine⟨fun e=>absurd e ωd,fun _=>?_⟩;have hno:¬nbOk s x16 j:=fun h=>by obtain⟨h1,h2,h3,h4⟩:=h;omega
    refine⟨j+1,ω,by simp only;omega,?_⟩;constructor<;>(repeat' apply And.intro)<;>first|exact ωq|exact congrArg (List.map ilD) (Zbo a0 ω hno)|exact congrArg (List.map ilD) (Zbo a0 ω hno).symm
  .have a2:¬((j:Int)<2):=oF e2;obtain rfl:j=2:=ω;exact⟨i+1,ω,by simp only;omega,ωE⟩
 .have a1:¬((i:Int)<((l.map intD).length:Int)):=oF e1;obtain rfl:i=l.length:=ω;exact rfl
theorem ZtS(l:List (List Int))(hn:l.length<=12)(hx:∀x,x∈l->x.length<=1048576):SpecS Tryz.prog Tab 129 [.val (.one (.row 1000 0)),int 0,int (l.length:Int),fv 32] 61 1 (l.map ilD) (.tup []) ((srtL l).map ilD):=by
 have hLl:(l.map ilD).length=l.length:=length_map ..;refine fn_S 0 [] Tryz.func129 rfl rfl Tryz.ntmps129 rfl ωr rfl rfl rfl ?_;refine⟨Nat,fun i=>[(0,.val (.one (.row 1000 0))),(1,int 0),(2,int (l.length:Int)),(3,fv 32),(8,int (i:Int))],
  fun i=>[(1000,.row 61 1 0 ((sD l i).map ilD) true)],fun i=>1<=i/\(i<=l.length\/i=1),fun i=>l.length+1-i,1,?_,⟨Nat.le_refl _,.inr rfl⟩,fun i hs=>?_⟩
 .constructor<;>(repeat' apply And.intro)<;>first|exact ωq|exact congrArg (List.map ilD) (sD_1 l)|exact congrArg (List.map ilD) (sD_1 l).symm
 have g1:=hs.1;have g2:=hs.2;refine⟨fun e1=>?_,fun e1=>?_⟩
 .have a1:(i:Int)<(l.length:Int):=oT e1;obtain⟨x,hxi⟩:∃x,l[i]? =some x:=⟨_,gE ω⟩;have hPl:=ZuT (l:=l) (i:=i) ω;have hxx:=hx x (mG hxi);refine⟨Nat,fun j=>[(0,.val (.one (.row 1000 0))),(1,int 0),(2,int (l.length:Int)),(3,fv 32),(8,int (i:Int)),(9,int (j:Int))],
   fun j=>[(1000,.row 61 1 0 ((insD (sP l i) x j (l.drop (i+1))).map ilD) true)],fun j=>j<=i/\insL (sP l i) x=insL ((sP l i).take j) x++(sP l i).drop j,fun j=>j,i,?_,⟨Nat.le_refl _,ZwX ω⟩,fun j hs=>?_⟩
  .constructor<;>(repeat' apply And.intro)<;>first|exact ωq|exact congrArg (List.map ilD) (Zvx hxi)|exact congrArg (List.map ilD) (Zvx hxi).symm
  have j1:=hs.1;have j2:=hs.2;have hLd:((insD (sP l i) x j (l.drop (i+1))).map ilD).length=l.length:=by rw[length_map,Zt1,hPl,List.length_drop];omega
  refine fork (fun e2=>?_) (fun e2=>?_)
  .have a2:(j:Int) >0:=oT e2;refine k_at_own' j ωf ω<|ZeY [D.list (x.map intD)] _ (Zd (ZqI ω)) rfl rfl<|k_at_own' (j-1) ωf ω ?_;have hj0:0<j:=ω;obtain⟨y,hy⟩:∃y,(sP l i)[j-1]? =some y:=⟨_,gE ω⟩;have hyx:=hx y (Zx4 (mG hy));refine ZeY [D.list (y.map intD)] _ (Zd (ZlG hj0 hy)) rfl rfl<|use (ZiY x y ω ω) rfl ⟨ωr,⟨fun e3=>?_,fun e3=>?_⟩⟩
   .have a0:cmpL x y<0:=oT e3;have hlt:=(Zfk _ _).1 a0;refine k_at_own' (j-1) ωf ω<|ZeY [D.list (y.map intD)] _ (Zd (ZlG hj0 hy)) rfl rfl<|k_at_own' j ωf ω<|ZeY [D.list (x.map intD)] _ (Zd (ZqI ω)) rfl rfl<|k_at_own' j ωf ω ⟨by first|omega|(simp only[length_set];omega)|(simp;omega),k_at_own' (j-1) ωf (by simp only[length_set];omega) ⟨by first|omega|(simp only[length_set];omega)|(simp;omega),⟨ωr,⟨j-1,⟨ω,ZtW hj0 hy hlt j2⟩,by simp only;omega,?_⟩⟩⟩⟩;constructor<;>(repeat' apply And.intro)<;>first|exact ωq|(rw[<-ZqH (x:=x) (r:=l.drop (i+1)) hj0 hy,map_set,map_set];rfl)
   .have a0:¬(cmpL x y<0):=oF e3;have hfin:=ZtV (l.drop (i+1)) hj0 hy (fun h=>a0 ((Zfk _ _).2 h)) j2;refine⟨i+1,⟨ω,.inl ω⟩,by simp only;omega,?_⟩;constructor<;>(repeat' apply And.intro)<;>first|exact ωq|exact congrArg (List.map ilD) (hfin.trans (ZgK hxi).symm)|exact congrArg (List.map ilD) (hfin.trans (ZgK hxi).symm).symm
  .have a2:¬((j:Int) >0):=oF e2;refine⟨ωr,⟨fun e=>absurd e ωd,fun _=>?_⟩⟩;obtain rfl:j=0:=ω;have hfin:=ZtU (l.drop (i+1)) j2;refine⟨i+1,⟨ω,.inl ω⟩,by simp only;omega,?_⟩;constructor<;>(repeat' apply And.intro)<;>first|exact ωq|exact congrArg (List.map ilD) (hfin.trans (ZgK hxi).symm)|exact congrArg (List.map ilD) (hfin.trans (ZgK hxi).symm).symm
 .have a1:¬((i:Int)<(l.length:Int)):=oF e1;exact⟨rfl,⟨_,rfl,congrArg (fun m=>Ob.row _ 1 0 (List.map ilD m) true) (Zx5 ω)⟩⟩
theorem Zs1(l:List (List Int))(lim:Int)(hn:l.length<=12)(hx:∀x,x∈l->x.length<=1048576):SpecS Tryz.prog Tab 78 [.val (.one (.row 1000 0)),int 0,int (l.length:Int),int lim,fv 32] 61 1 (l.map ilD) (.tup []) ((srtL l).map ilD):=by
 have hwn:IntKind.i64.wrap ((l.length:Int)-0)=(l.length:Int):=by rw[wrap64 _ ω ω];omega
 refine fn_S 0 [500030] Tryz.func78 rfl rfl Tryz.ntmps78 rfl ωr rfl rfl rfl ?_;refine⟨Nat,fun i=>[(0,.val (.one (.row 1000 0))),(1,int 0),(2,int (l.length:Int)),(3,int lim),(4,fv 32),(10,bool true),(11,bool true)],
  fun i=>[(1000,.row 61 1 0 (l.map ilD) true)],fun i=>True,fun i=>i,0,?_,trivial,fun i hs=>?_⟩
 .exact ωe
 refine⟨fun e1=>?_,fun e1=>?_⟩
 .have a0:IntKind.i64.wrap ((l.length:Int)-0)<=12:=oT e1;exact⟨.tup [],(srtL l).map ilD,⟨rfl,ZtS l hn hx⟩,⟨rfl,⟨_,rfl,rfl⟩⟩⟩
 .have a0:¬(IntKind.i64.wrap ((l.length:Int)-0)<=12):=oF e1;exfalso;omega
abbrev l8T:ByteArray:=ByteArray.mk #[0,1,2,2,3,3,3,3,4,4,4,4,4,4,4,4,5,5,5,5,5,5,5,5,5,5,5,5,5,5,5,5,6,6,6,6,6,6,6,6,6,6,6,6,6,6,6,6,6,6,6,6,6,6,6,6,6,6,6,6,6,6,6,6,7,7,7,7,7,7,7,7,7,7,7,7,7,7,7,7,7,7,7,7,7,7,7,7,7,7,7,7,7,7,7,7,7,7,7,7,7,7,7,7,7,7,7,7,7,7,7,7,7,7,7,7,7,7,7,7,7,7,7,7,7,7,7,7,8,8,8,8,8,8,8,8,8,8,8,8,8,8,8,8,8,8,8,8,8,8,8,8,8,8,8,8,8,8,8,8,8,8,8,8,8,8,8,8,8,8,8,8,8,8,8,8,8,8,8,8,8,8,8,8,8,8,8,8,8,8,8,8,8,8,8,8,8,8,8,8,8,8,8,8,8,8,8,8,8,8,8,8,8,8,8,8,8,8,8,8,8,8,8,8,8,8,8,8,8,8,8,8,8,8,8,8,8,8,8,8,8,8,8,8,8,8,8,8,8,8,8,8,8,8,8,8]
theorem Zm1(x:Nat)(b:UInt8)(hx:x<=12)(hb:l8T[x]? =some b):Spec Tryz.prog Tab 138 [.val (.one (.d (.v (.int .u64 ((x:Int))))))] (int (IntKind.i64.wrap (0+(b.toNat:Int)))):=by
 refine Zb Tryz.func138 Tryz.ntmps138 ?_;refine⟨fun e1=>?_,fun e1=>?_⟩
 .have f4:(x:Int)>=4294967296:=oT e1;exfalso;omega
 .have f4:¬((x:Int)>=4294967296):=oF e1;refine⟨fun e2=>?_,fun e2=>?_⟩
  .have f8:(x:Int)>=65536:=oT e2;exfalso;omega
  .have f8:¬((x:Int)>=65536):=oF e2;refine⟨fun e3=>?_,fun e3=>?_⟩
   .have a0:(x:Int)>=256:=oT e3;exfalso;omega
   .have a0:¬((x:Int)>=256):=oF e3;refine Zdg (k':=.u8) ωr ωr (x:Int) (by rw[ZnP,Nat.mod_eq_of_lt ω]) ?_;obtain⟨b22,hb22⟩:∃b,l8T[x]? =some b:=⟨_,getElem?_pos l8T _ (by show x<256;omega)⟩;refine Zch b22 ω (by rw[show ((x:Int):Int).toNat=x by omega];exact hb22)<|Zdg (k':=.i64) ωr ωr (b22.toNat:Int) (by rw[wrap64 _ ω (by have:=b22.toNat_lt;omega)])<|Eq.trans (b:=int (IntKind.i64.wrap (0+(b22.toNat:Int)))) ?_ rfl;rw[sI (hb22.symm.trans hb)]
theorem ZvN{n:Nat}(h:n<=12):IntKind.u64.wrap (n:Int)=(n:Int):=by
 unfold IntKind.wrap;simp[IntKind.bits,IntKind.signed];omega
theorem Ztt(x:Nat)(hx:x<=12):∃b:UInt8,l8T[x]? =some b:=⟨_,getElem?_pos _ _ (by show x<256;omega)⟩
theorem Zts(x:Nat)(b:UInt8)(hx:x<=12)(hb:l8T[x]? =some b):Spec Tryz.prog Tab 79 [.val (.one (.d (.v (.int .u64 ((x:Int))))))] (int (IntKind.i64.wrap (0+(b.toNat:Int)))):=by
 refine Zb Tryz.func79 Tryz.ntmps79 ?_;refine⟨fun e=>absurd e ωd,fun _=> use (Zm1 x b hx hb) rfl<|Eq.trans (b:=int (IntKind.i64.wrap (0+(b.toNat:Int)))) ?_ rfl⟩;rfl
theorem Zsn(l:List (List Int))(hn:l.length<=12)(hx:∀x,x∈l->x.length<=1048576):SpecS Tryz.prog Tab 31 [.val (.one (.row 1000 0)),fv 32] 61 1 (l.map ilD) (.tup []) ((srtL l).map ilD):=by
 have hLl:(l.map ilD).length=l.length:=length_map ..;obtain⟨b,hb⟩:=Ztt l.length hn;refine fn_S 0 [500013] Tryz.func31 rfl rfl Tryz.ntmps31 rfl ωr rfl rfl rfl ?_;exact Zdg (k':=.u64) ωr ωr (l.length:Int) (by rw[hLl];exact(ZvN hn).symm)<|use (Zts l.length b hn hb) rfl ⟨.tup [],(srtL l).map ilD,⟨rfl,(by have h:=Zs1 l (IntKind.i64.wrap (0+(b.toNat:Int))) hn hx;rw[<-hLl]at h;exact h)⟩,⟨rfl,⟨_,rfl,rfl⟩⟩⟩
end
section
variable{K:AV->Prop}
theorem Zev(A:ArmV)(l m:List RV)(Wl:List (List (RV×RV)))(hA:A.ok)(hl:l.length<=1048576/\∀x,x∈l->x.z<=1048576)(hm:m.length<=1048576/\∀x,x∈m->x.z<=1048576)(hW:Wl.length<=1048576/\∀m,m∈Wl->m.length<=1048576/\∀p,p∈m->p.1.z<=1048576/\p.2.z<=1048576)(h0:motE A l m Wl 2=0):Spec Tryz.prog Tab 25 [Xl rd l,Xl rd m,.val (.one (.ref (aD A))),.val (.one (.ref [D.list (Wl.map rdvs)]))] (bool (provedB A (rowsL l m 2) Wl)):=by
 refine Zb Tryz.func25 Tryz.ntmps25 ?_;refine Zqx (A:=A) (l:=l) (m:=m) (Wl:=Wl) hA hl hm hW h0 fun b11 hb11=> Eq.trans (b:=bool b11) ?_ rfl;rw[hb11]
theorem Zsd{A:ArmV}{s:Int}{x:List Int}(hA0:armE A=0)(hs:1<=s/\s<=12)(hx:Vs A.links.length s x):((vlF A s x A.links.length).map cn).length=A.links.length/\((vlF A s x A.links.length).map cn).length<=1048576/\∀y,y∈(vlF A s x A.links.length).map cn->y.z<=1048576:=by
 have h3:=(Zy hA0).1;refine⟨by rw[length_map,Zbr],by rw[length_map,Zbr];omega,fun y hy=>?_⟩;obtain⟨q,hq,rfl⟩:=List.mem_map.1 hy;rw[cn_z];exact Nat.le_trans (ZxH hA0 hs hx q hq) ω
theorem ZxF{A:ArmV}{P:List RV}{Wl:List (List (RV×RV))}{s:Int}{x:List Int}(hA:A.ok)(hA0:armE A=0)(hs:1<=s/\s<=12)(hP:P.length<=1048576/\∀x,x∈P->x.z<=1048576)(hl:P.length=A.links.length)(hx:Vs A.links.length s x)(hW:Wl.length<=1048576/\∀m,m∈Wl->m.length<=1048576/\∀p,p∈m->p.1.z<=1048576/\p.2.z<=1048576)(hw:wallsE Wl=0):
  Spec Tryz.prog Tab 25 [Xl rd P,Xl rdc (vlF A s x A.links.length),.val (.one (.ref (aD A))),.val (.one (.ref [D.list (Wl.map rdvs)]))] (bool (provedB A (rowsL P ((vlF A s x A.links.length).map cn) 2) Wl)):=by
 have h:=Zsd hA0 hs hx;rw[Zca (vlF A s x A.links.length)];exact Zev A P _ Wl hA hP h.2 hW (Zg7 hA0 hw hl h.1)
theorem ZxE{A:ArmV}{Q:List RV}{Wl:List (List (RV×RV))}{s:Int}{x:List Int}(hA:A.ok)(hA0:armE A=0)(hs:1<=s/\s<=12)(hQ:Q.length<=1048576/\∀x,x∈Q->x.z<=1048576)(hl:Q.length=A.links.length)(hx:Vs A.links.length s x)(hW:Wl.length<=1048576/\∀m,m∈Wl->m.length<=1048576/\∀p,p∈m->p.1.z<=1048576/\p.2.z<=1048576)(hw:wallsE Wl=0):
  Spec Tryz.prog Tab 25 [Xl rdc (vlF A s x A.links.length),Xl rd Q,.val (.one (.ref (aD A))),.val (.one (.ref [D.list (Wl.map rdvs)]))] (bool (provedB A (rowsL ((vlF A s x A.links.length).map cn) Q 2) Wl)):=by
 have h:=Zsd hA0 hs hx;rw[Zca (vlF A s x A.links.length)];exact Zev A _ Q Wl hA h.2 hQ hW (Zg7 hA0 hw h.1 hl)
theorem ZxG{A:ArmV}{Wl:List (List (RV×RV))}{s:Int}{x y:List Int}(hA:A.ok)(hA0:armE A=0)(hs:1<=s/\s<=12)(hx:Vs A.links.length s x)(hy:Vs A.links.length s y)(hW:Wl.length<=1048576/\∀m,m∈Wl->m.length<=1048576/\∀p,p∈m->p.1.z<=1048576/\p.2.z<=1048576)(hw:wallsE Wl=0):
  Spec Tryz.prog Tab 25 [Xl rdc (vlF A s x A.links.length),Xl rdc (vlF A s y A.links.length),.val (.one (.ref (aD A))),.val (.one (.ref [D.list (Wl.map rdvs)]))] (bool (frS A Wl s x y)):=by
 have h:=Zsd hA0 hs hx;have g:=Zsd hA0 hs hy;rw[Zca (vlF A s x A.links.length),Zca (vlF A s y A.links.length)];exact Zev A _ _ Wl hA h.2 g.2 hW (Zg7 hA0 hw h.1 g.1)
noncomputable def wyR(A:ArmV)(P Q:List RV)(Wl:List (List (RV×RV)))(s:Int):Option (List (List Int)):=if opnB A P Q Wl s=true then (rwF s (frS A Wl s) (nrF A s P A.links.length) (nrF A s Q A.links.length)) else none
def wyL(A:ArmV)(P Q:List RV)(s:Int):Option (List (List Int))->List (List Rat)
 |none=>[]
 |some l=>[gdL P]++l.map (fun x=>vlF A s x A.links.length)++[gdL Q]
theorem ZxB{A:ArmV}{P Q:List RV}{Wl:List (List (RV×RV))}{s:Int}(h:¬opnB A P Q Wl s=true):wyR A P Q Wl s=none:=if_neg h
theorem ZvM{A:ArmV}{P Q:List RV}{Wl:List (List (RV×RV))}{s:Int}(h:opnB A P Q Wl s=true){r:Option (List (List Int))}(hr:(rwF s (frS A Wl s) (nrF A s P A.links.length) (nrF A s Q A.links.length))=r):wyR A P Q Wl s=r:=by unfold wyR;rw[if_pos h,hr]
theorem Zuv(A:ArmV)(P Q:List RV)(Wl:List (List (RV×RV)))(s:Int)(hA:A.ok)(hP:P.length<=1048576/\∀x,x∈P->x.z<=1048576)(hQ:Q.length<=1048576/\∀x,x∈Q->x.z<=1048576)(hW:Wl.length<=1048576/\∀m,m∈Wl->m.length<=1048576/\∀p,p∈m->p.1.z<=1048576/\p.2.z<=1048576)(hfP:fitsE A P=0)(hfQ:fitsE A Q=0)(hs4:0<=s/\s<=4)(hs1:1<=s)(hw:wallsE Wl=0):Spec Tryz.prog Tab 8 [arm A,Xl rd P,Xl rd Q,Xl rdvs Wl,int s] (.tup [.one (.d (.list ((wyL A P Q s (wyR A P Q Wl s)).map rdcs))),.one (.d (.v (.bool ((wyR A P Q Wl s).isSome))))]):=by
 have hs12:1<=s/\s<=12:=⟨hs1,ω⟩;have hA0:=(ZI hfP).2;have hn3:=(Zy hA0).1;have hVu:=Zfq hfP hs12;have hVv:=Zfq hfQ hs12;have hu1:=hVu.1;have hv1:=hVv.1;refine ZvA [62,82,500119,1600129,1600133,1500165] Tryz.func8 rfl rfl Tryz.ntmps8 rfl ωr rfl rfl ?_;refine Zqy (A:=A) (Q:=P) hA hfP hs12.1 hs12.2 hP.2<|Zqy (A:=A) (Q:=Q) hA hfQ hs12.1 hs12.2 hQ.2 ⟨ωr,⟨[(1,Xl rd P),(2,Xl rd Q),(4,int s),(5,.val (.one (.ref (aD A)))),(8,.val (.one (.ref [D.list (Wl.map rdvs)]))),(12,Xl intD (nrF A s P A.links.length)),(13,Xl intD (nrF A s Q A.links.length))], [],?_,?_⟩⟩
 .exact ωE
 refine ZiG (A:=A) (L:=nrF A s P A.links.length) hA hA0 hs12.1 hs12.2 hVu.1 (fun i k h=>hVu.2 k (mG h))<|use (ZxF (Wl:=Wl) hA hA0 hs12 hP (ZI hfP).1 hVu hW hw) rfl<|fork (fun e1=>?_) (fun e1=>?_)
 .have a3:¬(provedB A (rowsL P ((vlF A s (nrF A s P A.links.length) A.links.length).map cn) 2) Wl=true):=fun hh=>Bool.false_ne_true ((Zbu e1).symm.trans hh);refine⟨fun _=> Eq.trans (b:=.tup [.one (.d (.list ([]))),.one (.d (.v (.bool (false))))]) ?_ rfl,fun e=>absurd e ωd⟩;rw[ZxB (fun h=>a3 (by have h1:=h;unfold opnB at h1;rw[Bool.and_eq_true]at h1;exact h1.1))];exact rfl
 .have a3:¬(¬(provedB A (rowsL P ((vlF A s (nrF A s P A.links.length) A.links.length).map cn) 2) Wl=true)):=fun hh=>hh ((Zbv e1));refine ZiG (A:=A) (L:=nrF A s Q A.links.length) hA hA0 hs12.1 hs12.2 hVv.1 (fun i k h=>hVv.2 k (mG h))<|use (ZxE (Wl:=Wl) hA hA0 hs12 hQ (ZI hfQ).1 hVv hW hw) rfl ⟨fun e2=>?_,fun e2=>?_⟩
  .have a4:¬(provedB A (rowsL ((vlF A s (nrF A s Q A.links.length) A.links.length).map cn) Q 2) Wl=true):=fun hh=>Bool.false_ne_true ((Zbu e2).symm.trans hh);refine Eq.trans (b:=.tup [.one (.d (.list ([]))),.one (.d (.v (.bool (false))))]) ?_ rfl;rw[ZxB (fun h=>a4 (by have h1:=h;unfold opnB at h1;rw[Bool.and_eq_true]at h1;exact h1.2))];exact rfl
  .have a4:¬(¬(provedB A (rowsL ((vlF A s (nrF A s Q A.links.length) A.links.length).map cn) Q 2) Wl=true)):=fun hh=>hh ((Zbv e2));have hop:opnB A P Q Wl s=true:=by unfold opnB;rw[nN a3,nN a4];rfl
   refine⟨trivial,?_⟩;refine⟨(List (List (List Int))×List (List Int)×Nat),fun (lists,seen,k)=>[(1,Xl rd P),(2,Xl rd Q),(4,int s),(5,.val (.one (.ref (aD A)))),(13,Xl intD (nrF A s Q A.links.length)),(14,.val (.one (.d (.fn 25 [aD A, [D.list (Wl.map rdvs)]])))),(15,Xl lsD lists),(16,.val (.one (.row 62 0)))],
    fun (lists,seen,k)=>[(62,.row 61 1 0 (List.map ilD seen) true)],fun (lists,seen,k)=>LL A.links.length s (frS A Wl s) (nrF A s P A.links.length) (nrF A s Q A.links.length) k lists seen (rwF s (frS A Wl s) (nrF A s P A.links.length) (nrF A s Q A.links.length)),fun (lists,seen,k)=>2*(126-seen.length)+(if lists= [] then 0 else 1),([[nrF A s P A.links.length]], [nrF A s P A.links.length],0),?_,ll_0 hVu (ZuV hs4 hn3 hVu),fun zs hs=>?_⟩
   .exact ωE
   obtain⟨lists,seen,k⟩:=zs;have hL:=hs;have hsl:=hL.seenL hs4 hn3;have hll:=hL.listsL hs4 hn3;have hLl:(lists.map lsD).length=lists.length:=length_map ..;have hLs:(seen.map ilD).length=seen.length:=length_map ..;refine⟨fun e3=>?_,fun e3=>?_⟩
   .have aa:((lists.map lsD).length:Int) >0:=oT e3;have hne:lists≠ []:=fun e=>by subst e;simp at aa
    refine⟨Nat,fun i1=>[(1,Xl rd P),(2,Xl rd Q),(4,int s),(5,.val (.one (.ref (aD A)))),(13,Xl intD (nrF A s Q A.links.length)),(14,.val (.one (.d (.fn 25 [aD A, [D.list (Wl.map rdvs)]])))),(15,Xl lsD lists),(16,.val (.one (.row 62 0))),(66,Xl lsD lists),(67,int ((lists.map lsD).length:Int)),(68,int (i1:Int))],
     fun i1=>[(62,.row 61 1 0 (seen.map ilD) true)],fun i1=>i1<=lists.length/\∀(j:Nat)(m:List (List Int)),j<i1->lists[j]? =some m->lstO [] m≠nrF A s Q A.links.length,fun i1=>lists.length-i1,0,?_,⟨Nat.zero_le _,fun j m h=>ω⟩,fun i1 hs=>?_⟩
    .exact ωe
    have g1:=hs.1;have g2:=hs.2;refine⟨fun e4=>?_,fun e4=>?_⟩
    .have ab:(i1:Int)<((lists.map lsD).length:Int):=oT e4;refine Zm (l:=lists) (i:=i1) ωm fun x70 a1=>?_;have ho:=hL.one hs4 hn3 hVu a1;have hlx70:(List.map ilD x70).length=x70.length:=length_map ..;have hp1:=ho.pos;have hp2:=ho.len;have hp3:=ho.last.1;refine k_ix i1 _ ωf (Zd a1) rfl<|k_ix (x70.length-1) _ ωf (Zd ho.at') rfl<|ZwN ω ω ⟨fun e5=>?_,fun e5=>?_⟩
     .have a5:lstO [] x70=nrF A s Q A.links.length:=oT e5;refine use (Zif P hP) rfl ?_;refine⟨trivial,?_⟩;refine⟨Nat,fun i2=>[(2,Xl rd Q),(4,int s),(5,.val (.one (.ref (aD A)))),(19,.val (.one (.row 82 0))),(83,Xl ilD x70),(84,int ((x70.map ilD).length:Int)),(85,int (i2:Int))],
       fun i2=>[(82,.row 33 1 0 (([gdL P]++(x70.take i2).map (fun x=>vlF A s x A.links.length)).map rdcs) true)],fun i2=>i2<=x70.length,fun i2=>x70.length-i2,0,?_,Nat.zero_le _,fun i2 hs=>?_⟩
      .exact ωE
      refine⟨fun e6=>?_,fun e6=>?_⟩
      .have ac:(i2:Int)<((x70.map ilD).length:Int):=oT e6;refine Zm (l:=x70) (i:=i2) ωm fun x87 a6=>?_;have hxV:=ho.spots x87 (mG a6);refine k_ix i2 _ ωf (Zd a6) rfl<|ZiG (A:=A) (L:=x87) hA hA0 hs12.1 hs12.2 hxV.1 (fun i k h=>hxV.2 k (mG h)) ⟨⟨row1 rfl,(by show ((([gdL P]++(x70.take i2).map (fun x=>vlF A s x A.links.length)).map rdcs).length+1)*24<=_;(simp only[length_map,length_append,length_take,length_singleton];omega)),(by show ((([gdL P]++(x70.take i2).map (fun x=>vlF A s x A.links.length)).map rdcs).length+1)<=_;(simp only[length_map,length_append,length_take,length_singleton];omega))⟩,⟨i2+1,ω,by simp only;omega,?_⟩⟩;constructor<;>(repeat' apply And.intro)<;>first|exact ωq|(rw[List.take_add_one,a6];simp[rdcs])
      .have ac:¬((i2:Int)<((x70.map ilD).length:Int)):=oF e6;refine use (Zif Q hQ) rfl ⟨⟨row1 rfl,(by show ((([gdL P]++(x70.take i2).map (fun x=>vlF A s x A.links.length)).map rdcs).length+1)*24<=_;(simp only[length_map,length_append,length_take,length_singleton];omega)),(by show ((([gdL P]++(x70.take i2).map (fun x=>vlF A s x A.links.length)).map rdcs).length+1)<=_;(simp only[length_map,length_append,length_take,length_singleton];omega))⟩,Eq.trans (b:=.tup [.one (.d (.list (List.map rdcs ([gdL P]++(x70.take i2).map (fun x=>vlF A s x A.links.length))++[[D.list ((gdL Q).map rdc)]]))),.one (.d (.v (.bool (true))))]) ?_ rfl⟩;rw[ZvM hop (hL.hit a1 a5 g2)];show AV.tup [.one (.d (.list (([gdL P]++x70.map (fun x=>vlF A s x A.links.length)++[gdL Q]).map rdcs))),.one (.d (.v (.bool true)))]=_;rw[List.take_of_length_le (show x70.length<=i2 by omega)];simp[rdcs]
     .have a5:¬(lstO [] x70=nrF A s Q A.links.length):=oF e5;refine⟨i1+1,⟨ω,fun j m hj hm=>by
       by_cases e:j=i1
       .subst e;obtain rfl:=sI (a1.symm.trans hm);exact a5
       .exact g2 j m ω hm⟩,by simp only;omega,?_⟩
      exact ωE
    .have ab:¬((i1:Int)<((lists.map lsD).length:Int)):=oF e4;have hno:∀(j:Nat)(m:List (List Int)),j<lists.length->lists[j]? =some m->lstO [] m≠nrF A s Q A.links.length:=fun j m hj=>g2 j m ω;refine⟨Nat,fun i=>[(1,Xl rd P),(2,Xl rd Q),(4,int s),(5,.val (.one (.ref (aD A)))),(13,Xl intD (nrF A s Q A.links.length)),(14,.val (.one (.d (.fn 25 [aD A, [D.list (Wl.map rdvs)]])))),(16,.val (.one (.row 62 0))),(22,.val (.one (.row 159 0))),(23,.val (.one (.row 151 0))),(103,Xl lsD lists),(104,int ((lists.map lsD).length:Int)),(105,int (i:Int))],
      fun i=>[(62,.row 61 1 0 (seen.map ilD) true),(151,.row 61 1 0 (((rowsG s (frS A Wl s) seen lists i).2).map ilD) true),(159,.row 76 1 0 (((rowsG s (frS A Wl s) seen lists i).1).map lsD) true)],fun i=>i<=lists.length,fun i=>lists.length-i,0,?_,Nat.zero_le _,fun i hs=>?_⟩
     .constructor<;>(repeat' apply And.intro)<;>first|exact ωq|exact⟨_,_,congrArg (fun x:List (List (List Int))×List (List Int)=>Ob.row _ 1 0 (x.1.map lsD) true) ZgM⟩|exact⟨_,_,congrArg (fun x:List (List (List Int))×List (List Int)=>Ob.row _ 1 0 (x.2.map ilD) true) ZgM⟩|(rw[ZgM];try exact rfl)
     refine⟨fun e7=>?_,fun e7=>?_⟩
     .have ad:(i:Int)<((lists.map lsD).length:Int):=oT e7;refine Zm (l:=lists) (i:=i) ωm fun x107 a2=>?_;have ho2:=hL.one hs4 hn3 hVu a2;have hlx107:(List.map ilD x107).length=x107.length:=length_map ..;have hq1:=ho2.pos;have hq2:=ho2.len;have hq3:=ho2.last.1;refine k_ix i _ ωf (Zd a2) rfl ?_;refine k_ix (x107.length-1) _ ωf (Zd ho2.at') rfl ?_;refine useN (ZrH s (lstO [] x107) ω) ?_;refine⟨.tup [],(srtN s (lstO [] x107)).map ilD,⟨rfl,(by have h:=Zsn (besU s (lstO [] x107) (2*(lstO [] x107).length)) (by have:=Zkh s (lstO [] x107) (2*(lstO [] x107).length);omega) (fun x h=>by have:=((Za4 ω _ x ho2.last h).1).1;omega);rw[ZvV]at h;exact h)⟩,?_⟩;refine⟨Nat,fun j=>[(1,Xl rd P),(2,Xl rd Q),(4,int s),(5,.val (.one (.ref (aD A)))),(13,Xl intD (nrF A s Q A.links.length)),(14,.val (.one (.d (.fn 25 [aD A, [D.list (Wl.map rdvs)]])))),(16,.val (.one (.row 62 0))),(22,.val (.one (.row 159 0))),(23,.val (.one (.row 151 0))),(25,Xl ilD x107),(26,Xl intD (lstO [] x107)),(103,Xl lsD lists),(104,int ((lists.map lsD).length:Int)),(105,int (i:Int)),(120,.val (.one (.row 117 0))),(121,int (((srtN s (lstO [] x107)).map ilD).length:Int)),(122,int (j:Int))],
       fun j=>[(62,.row 61 1 0 (seen.map ilD) true),(117,.row 61 1 0 ((srtN s (lstO [] x107)).map ilD) true),(151,.row 61 1 0 (List.map ilD ((stpG s (frS A Wl s) seen x107 (rowsG s (frS A Wl s) seen lists i) j).2)) true),(159,.row 76 1 0 (List.map lsD ((stpG s (frS A Wl s) seen x107 (rowsG s (frS A Wl s) seen lists i) j).1)) true)],fun j=>j<=(srtN s (lstO [] x107)).length,fun j=>(srtN s (lstO [] x107)).length-j,0,?_,Nat.zero_le _,fun j hs=>?_⟩
      .constructor<;>(repeat' apply And.intro)<;>first|exact ωq|(rw[ZxW];try exact rfl)
      have hLr:((srtN s (lstO [] x107)).map ilD).length=(srtN s (lstO [] x107)).length:=length_map ..;have hsn:=Zgy s (lstO [] x107);have hI:=hL.inG hs4 hn3 hVu a2 (j:=j) hs;have hI1:=hI.next;have hI2:=hI.fresh;refine⟨fun e8=>?_,fun e8=>?_⟩
      .have ae:(j:Int)<(((srtN s (lstO [] x107)).map ilD).length:Int):=oT e8;refine k_at_own' j ωf (by first|omega|(simp only[length_set];omega)|(simp;omega))<|Zm (l:=(srtN s (lstO [] x107))) (i:=j) ωm fun x125 a0=>?_;have hwV:=ZuL ω ho2.last (mG a0);have hw1:=hwV.1;refine ZeY [D.list (List.map intD x125)] _ (Zd a0) rfl rfl ⟨[(1,Xl rd P),(2,Xl rd Q),(4,int s),(5,.val (.one (.ref (aD A)))),(13,Xl intD (nrF A s Q A.links.length)),(14,.val (.one (.d (.fn 25 [aD A, [D.list (Wl.map rdvs)]])))),(16,.val (.one (.row 62 0))),(22,.val (.one (.row 159 0))),(23,.val (.one (.row 151 0))),(25,Xl ilD x107),(26,Xl intD (lstO [] x107)),(29,.val (.one (.ref [D.list (List.map intD x125)]))),(103,Xl lsD lists),(104,int ((lists.map lsD).length:Int)),(105,int (i:Int)),(120,.val (.one (.row 117 0))),(121,int (((srtN s (lstO [] x107)).map ilD).length:Int)),(122,int (j:Int))], [(62,.row 61 1 0 (seen.map ilD) true),(117,.row 61 1 0 ((srtN s (lstO [] x107)).map ilD) true),(151,.row 61 1 0 (List.map ilD ((stpG s (frS A Wl s) seen x107 (rowsG s (frS A Wl s) seen lists i) j).2)) true),(159,.row 76 1 0 (List.map lsD ((stpG s (frS A Wl s) seen x107 (rowsG s (frS A Wl s) seen lists i) j).1)) true)],?_,?_⟩
       .exact ωE
       refine⟨bool (decide (x125∈seen)),⟨rfl,(ZlY seen x125 ω (fun x h=>by have:=(hL.seenV x h).1;omega) ω)⟩,fork (fun e9=>?_) (fun e9=>?_)⟩
       .have a7:x125∈seen:=oT e9;refine⟨ωr,⟨fun _=>?_,fun e=>absurd e ωd⟩⟩;have hst:=(Zc1 (seen:=seen) (fr:=(frS A Wl s)) (S:=rowsG s (frS A Wl s) seen lists i) a0).trans (Zey (fr:=(frS A Wl s)) (.inl a7));refine⟨j+1,ω,by simp only;omega,?_⟩;constructor<;>(repeat' apply And.intro)<;>first|exact ωq|exact congrArg (fun x:List (List (List Int))×List (List Int)=>List.map lsD x.1) hst|exact congrArg (fun x:List (List (List Int))×List (List Int)=>List.map ilD x.2) hst
       .have a7:¬(x125∈seen):=oF e9;refine⟨bool (decide (x125∈(stpG s (frS A Wl s) seen x107 (rowsG s (frS A Wl s) seen lists i) j).2)),⟨rfl,(ZlY (stpG s (frS A Wl s) seen x107 (rowsG s (frS A Wl s) seen lists i) j).2 x125 ω (fun x h=>by have:=(hI.spots x h).1;omega) ω)⟩,fork (fun e10=>?_) (fun e10=>?_)⟩
        .have a8:x125∈(stpG s (frS A Wl s) seen x107 (rowsG s (frS A Wl s) seen lists i) j).2:=oT e10;refine⟨ωr,⟨fun _=>?_,fun e=>absurd e ωd⟩⟩;have hst:=(Zc1 (seen:=seen) (fr:=(frS A Wl s)) (S:=rowsG s (frS A Wl s) seen lists i) a0).trans (Zey (fr:=(frS A Wl s)) (.inr (.inl a8)));refine⟨j+1,ω,by simp only;omega,?_⟩;constructor<;>(repeat' apply And.intro)<;>first|exact ωq|exact congrArg (fun x:List (List (List Int))×List (List Int)=>List.map lsD x.1) hst|exact congrArg (fun x:List (List (List Int))×List (List Int)=>List.map ilD x.2) hst
        .have a8:¬(x125∈(stpG s (frS A Wl s) seen x107 (rowsG s (frS A Wl s) seen lists i) j).2):=oF e10;refine ZiG (A:=A) (L:=lstO [] x107) hA hA0 hs12.1 hs12.2 ho2.last.1 (fun i k h=>ho2.last.2 k (mG h))<|ZiG (A:=A) (L:=x125) hA hA0 hs12.1 hs12.2 hwV.1 (fun i k h=>hwV.2 k (mG h))<|use (ZxG (Wl:=Wl) hA hA0 hs12 ho2.last hwV hW hw) rfl ⟨ωr,⟨fun e11=>?_,fun e11=>?_⟩⟩
         .have a9:¬(frS A Wl s (lstO [] x107) x125=true):=fun hh=>Bool.false_ne_true ((Zbu e11).symm.trans hh);have hst:=(Zc1 (seen:=seen) (fr:=(frS A Wl s)) (S:=rowsG s (frS A Wl s) seen lists i) a0).trans (Zey (fr:=(frS A Wl s)) (.inr (.inr (Bool.eq_false_iff.2 a9))));refine⟨j+1,ω,by simp only;omega,?_⟩;constructor<;>(repeat' apply And.intro)<;>first|exact ωq|exact congrArg (fun x:List (List (List Int))×List (List Int)=>List.map lsD x.1) hst|exact congrArg (fun x:List (List (List Int))×List (List Int)=>List.map ilD x.2) hst
         .have a9:¬(¬(frS A Wl s (lstO [] x107) x125=true)):=fun hh=>hh ((Zbv e11));refine⟨⟨row1 rfl,(by show ((List.map ilD ((stpG s (frS A Wl s) seen x107 (rowsG s (frS A Wl s) seen lists i) j).2)).length+1)*24<=_;(simp only[length_map,length_append,length_take,length_singleton];omega)),(by show ((List.map ilD ((stpG s (frS A Wl s) seen x107 (rowsG s (frS A Wl s) seen lists i) j).2)).length+1)<=_;(simp only[length_map,length_append,length_take,length_singleton];omega))⟩,useN (ZiZ x107 ω ω) ⟨⟨row1 rfl,(by show ((x107.map ilD).length+1)*24<=_;(simp only[length_map,length_append,length_take,length_singleton];omega)),(by show ((x107.map ilD).length+1)<=_;(simp only[length_map,length_append,length_take,length_singleton];omega))⟩,⟨⟨row1 rfl,(by show ((List.map lsD ((stpG s (frS A Wl s) seen x107 (rowsG s (frS A Wl s) seen lists i) j).1)).length+1)*24<=_;(simp only[length_map,length_append,length_take,length_singleton];omega)),(by show ((List.map lsD ((stpG s (frS A Wl s) seen x107 (rowsG s (frS A Wl s) seen lists i) j).1)).length+1)<=_;(simp only[length_map,length_append,length_take,length_singleton];omega))⟩,⟨ωr,?_⟩⟩⟩⟩;have hst:=(Zc1 (seen:=seen) (fr:=(frS A Wl s)) (S:=rowsG s (frS A Wl s) seen lists i) a0).trans (Zoq (fr:=(frS A Wl s)) a7 a8 (nN a9));refine⟨j+1,ω,by simp only;omega,?_⟩;constructor<;>(repeat' apply And.intro)<;>first|exact ωq|exact(congrArg (fun x:List (List (List Int))×List (List Int)=>List.map lsD x.1) hst).trans (Ztn _ _ _)|exact(congrArg (fun x:List (List (List Int))×List (List Int)=>List.map ilD x.2) hst).trans (Zt2 _ _)
      .have ae:¬((j:Int)<(((srtN s (lstO [] x107)).map ilD).length:Int)):=oF e8;have hcc:=Zsl (s:=s) (seen:=seen) (fr:=(frS A Wl s)) a2 (k:=j) ω;refine⟨i+1,ω,by simp only;omega,?_⟩;constructor<;>(repeat' apply And.intro)<;>first|exact ωq|exact congrArg (fun x:List (List (List Int))×List (List Int)=>List.map lsD x.1) hcc.symm|exact congrArg (fun x:List (List (List Int))×List (List Int)=>List.map ilD x.2) hcc.symm|exact congrArg (fun x:List (List (List Int))×List (List Int)=>List.map lsD x.1) hcc|exact congrArg (fun x:List (List (List Int))×List (List Int)=>List.map ilD x.2) hcc
     .have ad:¬((i:Int)<((lists.map lsD).length:Int)):=oF e7;have hil:i=lists.length:=ω;have hfv:=(hL.freshV hs4 hn3 hVu i ω).2.2;refine⟨[(1,Xl rd P),(2,Xl rd Q),(4,int s),(5,.val (.one (.ref (aD A)))),(13,Xl intD (nrF A s Q A.links.length)),(14,.val (.one (.d (.fn 25 [aD A, [D.list (Wl.map rdvs)]])))),(16,.val (.one (.row 62 0))),(22,Xl lsD ((rowsG s (frS A Wl s) seen lists i).1)),(23,Xl ilD ((rowsG s (frS A Wl s) seen lists i).2))], [(62,.row 61 1 0 (seen.map ilD) true)],?_,?_⟩
      .constructor<;>(repeat' apply And.intro)<;>first|exact ωq|exact⟨_,_,_,_,rfl,rfl,.inr rfl⟩
      refine⟨⟨(Zcr fun _=>rfl),(by show ((seen.map ilD).length+(((rowsG s (frS A Wl s) seen lists i).2).map ilD).length)*24<=_;(simp only[length_map,length_append,length_take,length_singleton];omega)),(by show ((seen.map ilD).length+(((rowsG s (frS A Wl s) seen lists i).2).map ilD).length)<=_;(simp only[length_map,length_append,length_take,length_singleton];omega))⟩,⟨((rowsG s (frS A Wl s) seen lists i).1,seen++(rowsG s (frS A Wl s) seen lists i).2,k+1),(by rw[hil];exact hL.next ω hVu hne hno),(by simp only[hil];exact hL.mu hs4 hn3 hVu hne hno),?_⟩⟩;constructor<;>(repeat' apply And.intro)<;>first|exact ωq|exact List.map_append|exact List.map_append.symm
   .have aa:¬(((lists.map lsD).length:Int) >0):=oF e3;have hle:lists= []:=List.length_eq_zero_iff.1 ω;subst hle;refine Eq.trans (b:=.tup [.one (.d (.list ([]))),.one (.d (.v (.bool (false))))]) ?_ rfl;rw[ZvM hop hL.none];exact rfl
end
end Go.Proofs.YtnhfpbcbhnfeaaaGreatDoor.eng
namespace Go.Proofs.YtnhfpbcbhnfeaaaGreatDoor.bfs
open Go.Proofs.YtnhfpbcbhnfeaaaGreatDoor.eng
section
variable{A:ArmV}{P Q:List RV}{Wl:List (List (RV×RV))}{s:Int}
theorem ZuF{n:Nat}{fr:List Int->List Int->Bool}{u v:List Int}(hs:0<=s/\s<=4)(hn:n<=3)(hu:Vs n s u)(hv:Vs n s v){r:Option (List (List Int))}(hr:rwF s fr u v=r):
  (r=none->¬(getF (srF s fr u v) u).isSome=true)/\∀l,r=some l->(getF (srF s fr u v) u).isSome=true/\gwyF s fr u v=l/\(∀z,z∈l->Vs n s z)/\l.length<=125:=by
 rcases Zk0 (fr:=fr) (v:=v) hs hn hu with ⟨D,l,h1,h2,h3,h4⟩|⟨h1,h2⟩
 .rw[hr]at h1;subst h1;refine⟨fun h=>by simp at h,fun l' hl'=>?_⟩;obtain rfl:=sI hl';obtain⟨g1,g2,g3⟩:=ZqN (fr:=fr) hs hn hv hu h2;refine⟨g1,Zpo ZjX ZcA (g3 l h3) (h4 _ g2),ZxD ω h3 hu,?_⟩;have:=Zrc hs hn hu h2;have:=h3.len;omega
 .rw[hr]at h1;subst h1;exact⟨fun _ h=> h2 _ (Zgz hs hn hv hu h),fun l hl=>by simp at hl⟩
theorem Zt7(hs:0<=s/\s<=4)(hw:wantF A P Q Wl s=0)(hr:wyR A P Q Wl s=none):fndE A P Q Wl s=4/\fndV A P Q Wl s= []:=by
 obtain⟨h1,h2,h3,h4⟩:=ZnU hw;have hn:=(Zy (ZI h1).2).1;refine Zeq hw fun h=>?_;unfold wyR at hr;rw[if_pos h.1]at hr;exact(ZuF hs hn (Zfq h1 h3) (Zfq h2 h3) hr).1 rfl h.2
theorem ZlK(hs:0<=s/\s<=4)(hw:wantF A P Q Wl s=0){l:List (List Int)}(hr:wyR A P Q Wl s=some l):fndE A P Q Wl s=0/\fndV A P Q Wl s=wyL A P Q s (some l)/\(wyL A P Q s (some l)).length<=1024/\∀r,r∈wyL A P Q s (some l)->r.length<=3:=by
 obtain⟨h1,h2,h3,h4⟩:=ZnU hw;have hA0:=(ZI h1).2;have hn:=(Zy hA0).1;unfold wyR at hr;split at hr
 .rename_i ho;obtain⟨g1,g2,g3,g4⟩:=(ZuF hs hn (Zfq h1 h3) (Zfq h2 h3) hr).2 l rfl;have e:=ZlL hw ⟨ho,g1⟩;have e2:fndL A P Q Wl s=wyL A P Q s (some l):=by
   unfold fndL wyL;rw[g2];congr 2;exact List.map_congr_left fun x hx=>Zd0 hA0 h3 (g3 x hx)
  refine⟨e.1,e.2.trans e2,?_,fun r hr=>?_⟩
  .unfold wyL;simp only[length_append,length_map,length_singleton];omega
  .unfold wyL at hr;simp only[List.mem_append,List.mem_singleton,List.mem_map]at hr;rcases hr with (rfl|⟨x,hx,rfl⟩)|rfl
   .rw[Zhk,(ZI h1).1];exact hn
   .rw[Zbr];exact hn
   .rw[Zhk,(ZI h2).1];exact hn
 .simp at hr
end
theorem ZgX(A:ArmV)(R:List (List (RV×RV))):provedB A R []=true:=by
 unfold provedB clearB;simp
theorem Zwi(A:ArmV)(P Q:List RV)(s:Int):opnB A P Q [] s=true:=by unfold opnB;rw[ZgX,ZgX];rfl
theorem Zy5(A:ArmV)(s:Int)(u v:List Int):frS A [] s u v=true:=ZgX _ _
def smW:List (List Int):=[[0,0], [0,1], [1,1]]
theorem sm_E{A:ArmV}{x y:List Int}:Egd (nbS 1) (frS A [] 1) x y↔y∈nbS 1 x:=⟨fun h=>h.1,fun h=>⟨h,Zy5 _ _ _ _⟩⟩
theorem sm_0:nbS 1 [0,0]= [[1,0], [0,1]]:=ωd
theorem sm_1:nbS 1 [0,1]= [[1,1], [0,0]]:=ωd
theorem ZuQ(A:ArmV):Way (Egd (nbS 1) (frS A [] 1)) 2 [0,0] [1,1] smW:=.cons (sm_E.2 (by rw[sm_0];simp)) (.cons (sm_E.2 (by rw[sm_1];simp)) (.nil _))
theorem Zzx{α:Type}{E:α->α->Prop}{d:Nat}{x y:α}{l:List α}(h:Way E d x y l):(d=0->x=y)/\(d=1->E x y):=by
 cases h with
 |nil=>exact⟨fun _=>rfl,fun h=>ω⟩
 |cons e h=>
  refine⟨fun h=>ω,fun hd=>?_⟩
  cases h with
  |nil=>exact e
  |cons _ _=>omega
theorem ZuR(A:ArmV):Dst (Egd (nbS 1) (frS A [] 1)) [0,0] [1,1] 2:=by
 refine⟨⟨_,ZuQ A⟩,fun e l h=>?_⟩;obtain⟨h0,h1⟩:=Zzx h;refine Nat.le_of_not_lt fun hlt=>?_;rcases (show e=0\/e=1 by omega) with he|he
 .exact absurd (h0 he) ωd
 .have:=sm_E.1 (h1 he);rw[sm_0]at this;simp at this
theorem Zzw{α:Type}{E:α->α->Prop}{x y:α}{l:List α}{d:Nat}(h:Way E d x y l)(hd:d=2):∃z,E x z/\l= [x,z,y]:=by
 cases h with
 |nil=>omega
 |cons e h=>
  cases h with
  |nil=>omega
  |cons e2 h=>
   cases h with
   |nil=>exact⟨_,e,rfl⟩
   |cons _ _=>omega
theorem ZzE(A:ArmV){l:List (List Int)}(h:Way (Egd (nbS 1) (frS A [] 1)) 2 [0,0] [1,1] l)(hl:pl ltP l smW):l=smW:=by
 obtain⟨z,e,rfl⟩:=Zzw h rfl;have h1:=sm_E.1 e;rw[sm_0]at h1;rcases List.mem_cons.1 h1 with rfl|h1
 .exfalso;rcases hl with hl|⟨_,hl⟩
  .exact absurd hl ωd
  .rcases hl with hl|⟨hl,_⟩
   .exact absurd hl ωd
   .exact absurd hl ωd
 .obtain rfl:=List.mem_singleton.1 h1;rfl
theorem ZzD(A:ArmV):rwF 1 (frS A [] 1) [0,0] [1,1]=some smW:=by
 have hV:∀x,x= [0,0]\/x= [1,1]->Vs 2 1 x:=by
  rintro x (rfl|rfl)<;>exact⟨rfl,ωd⟩
 rcases Zk0 (n:=2) (fr:=frS A [] 1) (v:=[1,1]) (s:=1) ⟨ωd,ωd⟩ ωd (hV [0,0] (.inl rfl)) with ⟨D,l,h1,h2,h3,h4⟩|⟨h1,h2⟩
 .obtain rfl:=h2.uniq (ZuR A);rw[h1,ZzE A h3 (h4 _ (ZuQ A))]
 .exact absurd (ZuR A) (h2 2)
def aS:ArmV:=sampA [3,2]
def pS(q:Rat):List RV:=[q,q].map cn
theorem aS_E:armE aS=0:=ZsA ωd ωd ωd
theorem lkS{i:Nat}(h:i<2):(lkAt aS i).low.q=m2Q/\(lkAt aS i).high.q=n2Q:=by
 rcases (show i=0\/i=1 by omega) with rfl|rfl<;>exact⟨show (cn m2Q).q=m2Q from cn_q _,show (cn n2Q).q=n2Q from cn_q _⟩
theorem qS{q:Rat}{i:Nat}(h:i<2):qAt (pS q) i=q:=by
 rcases (show i=0\/i=1 by omega) with rfl|rfl<;>exact(show (cn q).q=q from cn_q _)
theorem fitS{q:Rat}(h1:m2Q<=q)(h2:q<=n2Q):fitsE aS (pS q)=0:=by
 have hh:hasE aS ((pS q).length:Int)=0:=ZaG.2 ⟨aS_E,rfl⟩;have hf:¬farQ aS (pS q):=by
  rintro⟨i,l,x,hl,hx,hb⟩;have hi:i<2:=(gS hl).1;have e1:=lkS hi;rw[Zcd hl]at e1;have e2:=qS (q:=q) hi;rw[Zk7 hx]at e2;rw[e1.1,e1.2,e2]at hb;rcases hb with hb|hb
  .exact absurd hb (Rat.not_lt.2 h1)
  .exact absurd hb (Rat.not_lt.2 h2)
 unfold fitsE;rw[if_pos hh,if_neg hf]
theorem nrS{q:Rat}{k:Int}(h:-(hfQ-(q-m2Q)/(n2Q-m2Q)*((1:Int):Rat)).floor=k):nrF aS 1 (pS q) aS.links.length= [k,k]:=by
 have e:∀i,i<2->nrQ aS 1 (pS q) i=k:=fun i hi=>by
  unfold nrQ nrT;rw[(lkS hi).1,(lkS hi).2,qS hi];exact h
 show [nrQ aS 1 (pS q) 0,nrQ aS 1 (pS q) 1]=_;rw[e 0 ω,e 1 ω]
theorem vlS(k m:Int):vlF aS 1 [k,m] aS.links.length= [m2Q+(n2Q-m2Q)*((k:Rat)/((1:Int):Rat)),m2Q+(n2Q-m2Q)*((m:Rat)/((1:Int):Rat))]:=by
 show [vlQ aS 1 [k,m] 0,vlQ aS 1 [k,m] 1]=_;unfold vlQ;rw[(lkS (by omega:0<2)).1,(lkS (by omega:0<2)).2,(lkS (by omega:1<2)).1,(lkS (by omega:1<2)).2];rfl
def ansS:List (List Rat):=[[m2Q,m2Q], [m2Q,m2Q], [m2Q,n2Q], [n2Q,n2Q], [n2Q,n2Q]]
theorem wantS:wantF aS (pS m2Q) (pS n2Q) [] 1=0:=
 (ZhG (fitS ωk ωk) (fitS ωk ωk) ωd).trans (Zgq ωd (fun j hj=>absurd hj (Nat.not_lt_zero j)))
theorem wyS:wyR aS (pS m2Q) (pS n2Q) [] 1=some smW:=by
 refine ZvM (Zwi _ _ _ _) ?_;rw[nrS (q:=m2Q) (k:=0) ωk,nrS (q:=n2Q) (k:=1) ωk];exact ZzD _
theorem fndS:fndE aS (pS m2Q) (pS n2Q) [] 1=0/\fndV aS (pS m2Q) (pS n2Q) [] 1=ansS:=by
 obtain⟨h1,h2,_⟩:=ZlK ωd wantS wyS;refine⟨h1,h2.trans ?_⟩;unfold wyL smW ansS;have g:∀q:Rat,gdL (pS q)= [q,q]:=fun q=>show [(cn q).q,(cn q).q]=_ by rw[cn_q]
 rw[g,g];simp only[List.map_cons,List.map_nil];rw[vlS,vlS,vlS];decide+kernel
end Go.Proofs.YtnhfpbcbhnfeaaaGreatDoor.bfs
namespace Go.Proofs.YtnhfpbcbhnfeaaaGreatDoor.eng
open Go.RowKit num mem seg q held ratA ratB ratC ratD ratE vars ratF argopen trq bfs mpi
section
variable{K:AV->Prop}
theorem Zwm{n:Int}(h:n=-2\/n=2):NumIs n (n:Rat):=by
 rcases h with rfl|rfl
 .exact Zu9
 .rw[show ((2:Int):Rat)=n2Q by decide+kernel];exact Zyp
theorem ZmR(l:List Int)(hl:∀n,n∈l->n=-2\/n=2)(hn:l.length<=1000):Spec Tryz.prog Tab 11 [Xl intD l] (Xl rdc (castL l)):=by
 have hLl:(l.map intD).length=l.length:=length_map ..;refine Zb Tryz.func11 Tryz.ntmps11 ?_;refine⟨Nat,fun i=>[(3,.val (.one (.row 16 0))),(6,Xl intD l),(7,int ((l.map intD).length:Int)),(8,int (i:Int))],
  fun i=>[(16,.row 23 3 0 ((castL (l.take i)).map rdc) true)],fun i=>i<=l.length,fun i=>l.length-i,0,?_,Nat.zero_le _,fun i hs=>?_⟩
 .exact ωe
 have hT:((castL (l.take i)).map rdc).length<=1024:=by unfold castL;rw[length_map,length_map,length_take];omega
 refine⟨fun e1=>?_,fun e1=>?_⟩
 .have f9:(i:Int)<((l.map intD).length:Int):=oT e1;refine Zm (l:=l) (i:=i) ωm fun x10 a0=>?_;have hwx10:=hl x10 (mG a0);refine k_ix i _ ωf (Zd a0) rfl<|use (Zwm hwx10) rfl ⟨⟨row1 rfl,(by show (((castL (l.take i)).map rdc).length+1)*40<=_;omega),(by show (((castL (l.take i)).map rdc).length+1)<=_;omega)⟩,⟨i+1,ω,by simp only;omega,?_⟩⟩;constructor<;>(repeat' apply And.intro)<;>first|exact ωq|(rw[Znq a0];rfl)
 .have f9:¬((i:Int)<((l.map intD).length:Int)):=oF e1;refine Eq.trans (b:=(Xl rdc (castL (l.take i)))) ?_ rfl;obtain rfl:i=l.length:=ω;rw[List.take_length]
  all_goals rfl
theorem ZcM(a b:Int)(hl:∀n,n∈ [a,b]->n=-2\/n=2)(k:K (Xl rdc (castL [a,b]))):Ask 11 [.val (.one (.d (.list [[.v (.int .i64 a)], [.v (.int .i64 b)]])))] K:=use (ZmR [a,b] hl (by show 2<=1000;omega)) rfl k
theorem ZvF:castL [-2,-2]= [m2Q,m2Q]:=by decide+kernel
theorem ZvE:castL [2,2]= [n2Q,n2Q]:=by decide+kernel
theorem Zxp:castL [-2,2]= [m2Q,n2Q]:=by decide+kernel
theorem Zx9(q:Rat):List.map rdc [q,q]=List.map rd (pS q):=rfl
theorem pS_z{q:Rat}(h:qs q<=1000):(pS q).length<=1048576/\∀x,x∈pS q->x.z<=1048576:=⟨by show 2<=1048576;omega,fun x hx=>by
 obtain⟨y,hy,rfl⟩:=List.mem_map.1 hx;rw[cn_z];rcases List.mem_cons.1 hy with rfl|hy
 .omega
 .rw[List.mem_singleton.1 hy];omega⟩
theorem ZwU(k:K (.tup [.one (.d (.list (ansS.map rdcs))),.one (.d (.v (.int .i64 0)))])):Ask 7 [.val (.agg (.d (.v (.string ((sampA [3,2]).name)))::(X1 ((sampA [3,2]).bx)<|X1 ((sampA [3,2]).by') (.d (.v (.bool ((sampA [3,2]).bh)))::(X1 ((sampA [3,2]).bt) [.d (.list (((sampA [3,2]).links).map lk))]))))),Xl rdc (castL [-2,-2]),Xl rdc (castL [2,2]),.val (.one (.d (.list []))),int 1] K:=by
 have h:=Za9 (sampA [3,2]) (pS m2Q) (pS n2Q) [] 1 (Zle (Zsz ωd ωd) ωd) (pS_z ωk) (pS_z ωk) ⟨ωd,fun m hm=>by simp at hm⟩ (fun _ _ _ _=>ωd);rw[show fndE (sampA [3,2]) (pS m2Q) (pS n2Q) [] 1=0 from fndS.1,show fndV (sampA [3,2]) (pS m2Q) (pS n2Q) [] 1=ansS from fndS.2]at h;rw[ZvF,ZvE];have:=Zx9 m2Q;have:=Zx9 n2Q;exact use h rfl k
theorem Zq7(l:List (List Rat))(hn:l.length<=1099511627776)(hr:∀r,r∈l->r.length<=1099511627776):Spec Tryz.prog Tab 36 [Xl rdcs l,Xl rdcs l,fv 37] (bool true):=by
 have hLl:(l.map rdcs).length=l.length:=length_map ..;refine Zb Tryz.func36 Tryz.ntmps36 ?_;refine⟨fun e1=>?_,fun e1=>?_⟩
 .have a1:((l.map rdcs).length:Int)≠((l.map rdcs).length:Int):=ZO e1;exfalso;exact a1 rfl
 .have a1:¬(((l.map rdcs).length:Int)≠((l.map rdcs).length:Int)):=fun hh=>hh (ZP e1);refine⟨Nat,fun i=>[(1,Xl rdcs l),(2,fv 37),(15,Xl rdcs l),(16,int ((l.map rdcs).length:Int)),(17,int (i:Int))],
   fun i=>[],fun i=>i<=l.length,fun i=>l.length-i,0,?_,Nat.zero_le _,fun i hs=>?_⟩
  .exact ωe
  refine⟨fun e2=>?_,fun e2=>?_⟩
  .have a2:(i:Int)<((l.map rdcs).length:Int):=oT e2;refine Zm (l:=l) (i:=i) ωm fun x20 a0=> k_ix i _ ωf (Zd a0) rfl<|k_ix i _ ωf (Zd a0) rfl<|ZtD x20 x20 rfl rfl (hr _ (mG a0)) (hr _ (mG a0)) fun b29 hb29=>?_;obtain rfl:b29=true:=hb29.trans (decide_eq_true rfl);exact⟨fun e=>absurd e ωd,fun _=>⟨i+1,ω,by simp only;omega,ωE⟩⟩
  .have a2:¬((i:Int)<((l.map rdcs).length:Int)):=oF e2;refine Eq.trans (b:=bool true) ?_ rfl;rfl
theorem ZmY(l:List (List Rat))(hn:l.length<=1099511627776)(hr:∀r,r∈l->r.length<=1099511627776):Spec Tryz.prog Tab 9 [Xl rdcs l,Xl rdcs l] (bool true):=by
 refine Zb Tryz.func9 Tryz.ntmps9 ?_;refine use (Zq7 l hn hr) rfl<|Eq.trans (b:=bool true) ?_ rfl;rfl
theorem Zqp{u v:List (List D)}(l:List (List Rat))(hu:u=List.map rdcs l)(hv:v=List.map rdcs l)(hn:l.length<=1099511627776)(hr:∀r,r∈l->r.length<=1099511627776)(k:K (bool true)):Ask 9 [.val (.one (.d (.list u))),.val (.one (.d (.list v)))] K:=by
 subst hu hv;exact use (ZmY l hn hr) rfl k
theorem Zxw:([[.list ((castL [-2,-2]).map rdc)], [.list ((castL [-2,-2]).map rdc)], [.list ((castL [-2,2]).map rdc)], [.list ((castL [2,2]).map rdc)], [.list ((castL [2,2]).map rdc)]]:List (List D))=List.map rdcs ansS:=by
 rw[ZvF,ZvE,Zxp];rfl
theorem Zur:∀r,r∈ansS->r.length<=1099511627776:=by
 intro r hr;unfold ansS at hr;simp only[List.mem_cons,List.not_mem_nil,or_false]at hr;rcases hr with rfl|rfl|rfl|rfl|rfl<;>decide
theorem ZnS  :Spec Tryz.prog Tab 4 [] (bool true):=by
 refine Zb Tryz.func4 Tryz.ntmps4 ?_;refine ZtB [3,2] rfl ωd ωd<|ZcM (-2) (-2) ωd<|ZcM (2) (2) ωd<|ZwU<|ZcM (-2) (-2) ωd<|ZcM (-2) (-2) ωd<|ZcM (-2) (2) ωd<|ZcM (2) (2) ωd<|ZcM (2) (2) ωd<|Zqp ansS rfl Zxw ωd Zur<|Eq.trans (b:=bool true) ?_ rfl;rfl
theorem Zpu{α:Type}{r:Option α}{Q:Prop}(h0:r=none->Q)(h1:∀l,r=some l->Q):Q:=by
 cases r with
 |none=>exact h0 rfl
 |some l=>exact h1 l rfl
theorem Zfw(A:ArmV)(P Q:List RV)(Wl:List (List (RV×RV)))(s:Int)(hA:A.ok)(hP:P.length<=1048576/\∀x,x∈P->x.z<=1048576)(hQ:Q.length<=1048576/\∀x,x∈Q->x.z<=1048576)(hW:Wl.length<=1048576/\∀m,m∈Wl->m.length<=1048576/\∀p,p∈m->p.1.z<=1048576/\p.2.z<=1048576):Spec Tryz.prog Tab 3 [arm A,Xl rd P,Xl rd Q,Xl rdvs Wl,int s] (bool true):=by
 refine Zb Tryz.func3 Tryz.ntmps3 ?_;refine use ZnS rfl ⟨fun e=>absurd e ωd,fun _=> Zqz (A:=A) (Q:=P) hA (fun x hx=>Nat.le_trans (hP.2 x hx) ωd) (Nat.le_trans hP.1 ωd) fun n20 a7=>⟨fun e1=>?_,fun e1=>?_⟩⟩
 .have a3:n20=0:=ZaW e1;have hfP:fitsE A P=0:=a7.symm.trans a3;refine Zqz (A:=A) (Q:=Q) hA (fun x hx=>Nat.le_trans (hQ.2 x hx) ωd) (Nat.le_trans hQ.1 ωd) fun n25 a4=> fork (fun e2=>?_) (fun e2=>?_)
  .have a0:n25=0:=ZaW e2;refine fork (fun e3=>?_) (fun e3=>?_)
   .have a9:s<1:=oT e3;refine⟨fun _=>⟨fun e=>absurd e ωd,fun _=>⟨fun e=>absurd e ωd,fun _=>?_⟩⟩,fun e=>absurd e ωd⟩;have hfQ:fitsE A Q=0:=a4.symm.trans a0;have hnb:¬(1<=s/\s<=12):=ω;have hE:=Zbm (Wl:=Wl) (ZnV hfP hfQ hnb) ωd;have hFs:=Za9 A P Q Wl s hA hP hQ hW (fun _ _ h3 _=>absurd h3 hnb);rw[hE.1,hE.2]at hFs;refine use hFs rfl ⟨fun _=> Eq.trans (b:=bool (((([]:List (List Rat)).map rdcs).length:Int)==0)) ?_ rfl,fun e=>absurd e ωd⟩;rfl
   .have a9:¬(s<1):=oF e3;refine⟨fun e4=>?_,fun e4=>?_⟩
    .have aa:s >12:=oT e4;refine⟨fun e=>absurd e ωd,fun _=>⟨fun e=>absurd e ωd,fun _=>?_⟩⟩;have hfQ:fitsE A Q=0:=a4.symm.trans a0;have hnb:¬(1<=s/\s<=12):=ω;have hE:=Zbm (Wl:=Wl) (ZnV hfP hfQ hnb) ωd;have hFs:=Za9 A P Q Wl s hA hP hQ hW (fun _ _ h3 _=>absurd h3 hnb);rw[hE.1,hE.2]at hFs;refine use hFs rfl ⟨fun _=> Eq.trans (b:=bool (((([]:List (List Rat)).map rdcs).length:Int)==0)) ?_ rfl,fun e=>absurd e ωd⟩;rfl
    .have aa:¬(s >12):=oF e4;refine⟨fun e5=>?_,fun e5=>?_⟩
     .have a5:n25=0:=ZaW e5;refine ZtK (W:=Wl) hW fun n39 a8=> fork (fun e6=>?_) (fun e6=>?_)
      .have a2:n39=0:=ZaW e6;refine⟨fun e7=>?_,fun e7=>?_⟩
       .have ab:s >4:=oT e7;refine Eq.trans (b:=bool true) ?_ rfl;rfl
       .have ab:¬(s >4):=oF e7;have hfQ:fitsE A Q=0:=a4.symm.trans a0;have hs12:1<=s/\s<=12:=ω;have hw:wallsE Wl=0:=a8.symm.trans a2;have hs4:0<=s/\s<=4:=⟨ω,ω⟩;have hFs:=Za9 A P Q Wl s hA hP hQ hW (fun _ _ _ _=>hs4.2);have hWy:=Zuv A P Q Wl s hA hP hQ hW hfP hfQ hs4 hs12.1 hw;have hw0:=(ZhG (Wl:=Wl) hfP hfQ hs12).trans hw;refine Zpu (r:=wyR A P Q Wl s) (fun hR=>?_) (fun l hR=>?_)
        .rw[hR,Option.isSome_none]at hWy;have hE:=Zt7 hs4 hw0 hR;rw[hE.1,hE.2]at hFs;refine use hFs rfl ⟨fun e8=>?_,fun e8=>?_⟩
         .have a1:n39≠0:=ZO e8;exfalso;exact a1 a2
         .have a1:¬(n39≠0):=fun hh=>hh (ZP e8);refine use hWy rfl ⟨fun _=> Eq.trans (b:=bool (((([]:List (List Rat)).map rdcs).length:Int)==0)) ?_ rfl,fun e=>absurd e ωd⟩;rfl
        .rw[hR,Option.isSome_some]at hWy;have hE:=ZlK hs4 hw0 hR;have e3:=hE.2.2.1;have e4:=hE.2.2.2;rw[hE.1,hE.2.1]at hFs;refine use hFs rfl ⟨fun e9=>?_,fun e9=>?_⟩
         .have a1:n39≠0:=ZO e9;exfalso;exact a1 a2
         .have a1:¬(n39≠0):=fun hh=>hh (ZP e9);refine use hWy rfl ⟨fun e=>absurd e ωd,fun _=> Zqp (wyL A P Q s (some l)) rfl rfl ω (fun r hr=>Nat.le_trans (e4 r hr) ωd)<|Eq.trans (b:=bool true) ?_ rfl⟩;rfl
      .have a2:¬(n39=0):=ZaX e6;refine⟨fun e=>absurd e ωd,fun _=>?_⟩;have hfQ:fitsE A Q=0:=a4.symm.trans a0;have hs12:1<=s/\s<=12:=ω;have hE:=Zbm (ZhG (Wl:=Wl) hfP hfQ hs12) (by rw[<-a8];exact a2);have hFs:=Za9 A P Q Wl s hA hP hQ hW (fun _ _ _ h5=>absurd (a8.trans h5) a2);rw[hE.1,hE.2,<-a8]at hFs;refine use hFs rfl ⟨fun e10=>?_,fun e10=>?_⟩
       .have a1:n39≠0:=ZO e10;refine fork (fun e11=>?_) (fun e11=>?_)
        .have a6:n39=n39:=ZaW e11;refine Eq.trans (b:=bool (((([]:List (List Rat)).map rdcs).length:Int)==0)) ?_ rfl;rfl
        .have a6:¬(n39=n39):=ZaX e11;exfalso;exact a6 rfl
       .have a1:¬(n39≠0):=fun hh=>hh (ZP e10);exfalso;exact a1 a2
     .have a5:¬(n25=0):=ZaX e5;exfalso;exact a5 a0
  .have a0:¬(n25=0):=ZaX e2;refine⟨fun e=>absurd e ωd,fun _=>⟨fun e12=>?_,fun e12=>?_⟩⟩
   .have a5:n25=0:=ZaW e12;exfalso;exact a0 a5
   .have a5:¬(n25=0):=ZaX e12;refine fork (fun e13=>?_) (fun e13=>?_)
    .have a2:n25=0:=ZaW e13;exfalso;exact a0 a2
    .have a2:¬(n25=0):=ZaX e13;refine⟨fun e=>absurd e ωd,fun _=>?_⟩;have hE:=Zbm (Zjc (A:=A) (i:=1) (s:=s) (Wl:=Wl) (P:=P) (show [P,Q][1]? =some Q from rfl) (fun j y hj hy=>by
       obtain rfl:j=0:=ω;obtain rfl:=sI hy;exact hfP) (by rw[<-a4];exact a0)) (by rw[<-a4];exact a0)
     have hFs:=Za9 A P Q Wl s hA hP hQ hW (fun h1 h2 _ _=>absurd (a4.trans h2) a0);rw[hE.1,hE.2,<-a4]at hFs;refine use hFs rfl ⟨fun e14=>?_,fun e14=>?_⟩
     .have a1:n25≠0:=ZO e14;refine fork (fun e15=>?_) (fun e15=>?_)
      .have a6:n25=n25:=ZaW e15;refine Eq.trans (b:=bool (((([]:List (List Rat)).map rdcs).length:Int)==0)) ?_ rfl;rfl
      .have a6:¬(n25=n25):=ZaX e15;exfalso;exact a6 rfl
     .have a1:¬(n25≠0):=fun hh=>hh (ZP e14);exfalso;exact a1 a0
 .have a3:¬(n20=0):=ZaX e1;refine fork (fun e16=>?_) (fun e16=>?_)
  .have a0:n20=0:=ZaW e16;exfalso;exact a3 a0
  .have a0:¬(n20=0):=ZaX e16;refine⟨fun e=>absurd e ωd,fun _=>⟨fun e17=>?_,fun e17=>?_⟩⟩
   .have a5:n20=0:=ZaW e17;exfalso;exact a3 a5
   .have a5:¬(n20=0):=ZaX e17;refine fork (fun e18=>?_) (fun e18=>?_)
    .have a2:n20=0:=ZaW e18;exfalso;exact a3 a2
    .have a2:¬(n20=0):=ZaX e18;refine⟨fun e=>absurd e ωd,fun _=>?_⟩;have hE:=Zbm (Zjc (A:=A) (i:=0) (s:=s) (Wl:=Wl) (Q:=Q) (show [P,Q][0]? =some P from rfl) (fun j y hj=>absurd hj (Nat.not_lt_zero j)) (by rw[<-a7];exact a3)) (by rw[<-a7];exact a3);have hFs:=Za9 A P Q Wl s hA hP hQ hW (fun h1 h2 _ _=>absurd (a7.trans h1) a3);rw[hE.1,hE.2,<-a7]at hFs;refine use hFs rfl ⟨fun e19=>?_,fun e19=>?_⟩
     .have a1:n20≠0:=ZO e19;refine fork (fun e20=>?_) (fun e20=>?_)
      .have a6:n20=n20:=ZaW e20;refine Eq.trans (b:=bool (((([]:List (List Rat)).map rdcs).length:Int)==0)) ?_ rfl;rfl
      .have a6:¬(n20=n20):=ZaX e20;exfalso;exact a6 rfl
     .have a1:¬(n20≠0):=fun hh=>hh (ZP e19);exfalso;exact a1 a3
theorem pathFinds_walk(v0:Value)(A0:ArmV)(v1:Value)(l1:List RV)(v2:Value)(l2:List RV)(v3:Value)(l3:List (List (RV×RV)))(x4:Int)(N:Nat)(w:World)(_:1<=N)(hN:N<=1048576)(h0:DenAV w (fun b=>b<w.heap.size) noBs noMem v0 (arm A0))(u0:A0.zs N)(h1:Den w (fun b=>b<w.heap.size) v1 (.list (l1.map eng.rd)))(u1:ratsZ l1 N)(h2:Den w (fun b=>b<w.heap.size) v2 (.list (l2.map eng.rd)))(u2:ratsZ l2 N)(h3:Den w (fun b=>b<w.heap.size) v3 (.list (l3.map fun m=>[D.list (m.map eng.rdv)])))(u3:polysZ l3 N)(u4:-9223372036854775808<=x4/\x4<=9223372036854775807)(hT:Tab w):
  Calls Tryz.prog 3 #[v0,v1,v2,v3,.int .i64 x4] w fun e w'=>e= .returned (.bool true)/\Below w.heap.size w w':=
 Zfx (I:=fun b=>b<w.heap.size) (Zfw A0 l1 l2 l3 x4 (Zle u0 ω) ⟨Nat.le_trans u1.1 ω,fun x hx=>Nat.le_trans (u1.2 x hx) ω⟩ ⟨Nat.le_trans u2.1 ω,fun x hx=>Nat.le_trans (u2.2 x hx) ω⟩ (ZkD u3 hN)) rfl hT (fun _ h=>h)
  ((((((Zpm (vs:=[]) rfl).cons ((Zid (v:=int x4) rfl).2 rfl)).cons (show DenAV _ _ _ _ v3 (.val (.one (.d (.list _)))) from h3)).cons (show DenAV _ _ _ _ v2 (.val (.one (.d (.list _)))) from h2)).cons (show DenAV _ _ _ _ v1 (.val (.one (.d (.list _)))) from h1)).cons h0)
end
