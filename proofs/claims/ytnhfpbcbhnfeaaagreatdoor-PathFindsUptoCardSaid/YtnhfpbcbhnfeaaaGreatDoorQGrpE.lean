/- Joined by wip/bundle.py: XHeld XRatA XRatB XRatC XRatD XVars XRatE. -/
import Derived.Test.YtnhfpbcbhnfeaaaGreatDoorQGrpD
import Derived.Test.YtnhfpbcbhnfeaaaGreatDoorQQ
import Derived.Deep.RegionHeld3
set_option maxHeartbeats 4000000
set_option maxRecDepth 100000
open List (getElem?_append_left getElem?_set_self set_set)
namespace Go.Proofs.YtnhfpbcbhnfeaaaGreatDoor.held
open Go.RowKit num mem seg
section
variable{w w':World}{b T:Nat}{x y z x' y' z':Value}
theorem row3(h:Row w b T [x,y,z]):w.cell? ⟨b,0,none⟩=some x/\w.cell? ⟨b,1,none⟩=some y/\w.cell? ⟨b,2,none⟩=some z/\w.frozen? ⟨b,0,none⟩=false/\w.frozen? ⟨b,1,none⟩=false/\w.frozen? ⟨b,2,none⟩=false:=
 ⟨h.cell? 0,h.cell? 1,h.cell? 2,h.frozen 0,h.frozen 1,h.frozen 2⟩
end
def Held(w0:World)(ls:List (Nat×List Value))(w:World):Prop:=Below w0.heap.size w0 w/\∀(i T:Nat)(l:List Value),ls[i]? =some (T,l)->Row w (w0.heap.size+i) T l
section
variable{w0 w w':World}{ls:List (Nat×List Value)}{T:Nat}{l:List Value}
theorem Held.nil(w:World):Held w [] w:=⟨Below.refl _ _,fun i T l h=>by simp at h⟩
theorem Held.push(h:Held w0 ls w)(hs:w.heap.size=w0.heap.size+ls.length)(T:Nat)(l:List Value):Held w0 (ls++[(T,l)]) (w.alloc (.cells l.toArray T)):=by
 refine⟨h.1.alloc h.1.size _,?_⟩;intro i T' l' hi;by_cases hlt:i<ls.length
 .rw[getElem?_append_left hlt]at hi;exact(h.2 i T' l' hi).alloc _
 .have hi':i=ls.length:=by
   have:=(gS hi).1;simp at this;omega
  subst hi';simp at hi;obtain⟨rfl,rfl⟩:=hi;rw[<-hs];exact Row.alloc_new w T l
theorem Held.start1(w:World)(T:Nat)(l:List Value):Held w [(T,l)] (w.alloc (.cells l.toArray T)):=(Held.nil w).push (by simp) T l
theorem Held.start2(w:World)(T T':Nat)(l l':List Value):Held w [(T,l),(T',l')] ((w.alloc (.cells l.toArray T)).alloc (.cells l'.toArray T')):=(Held.start1 w T l).push (by simp) T' l'
theorem Held.start3(w:World)(T T' T'':Nat)(l l' l'':List Value):Held w [(T,l),(T',l'),(T'',l'')] (((w.alloc (.cells l.toArray T)).alloc (.cells l'.toArray T')).alloc (.cells l''.toArray T'')):=(Held.start2 w T T' l l').push (by simp) T'' l''
theorem Held.call(h:Held w0 ls w)(hb:Below w.heap.size w w'):Held w0 ls w':=
 ⟨h.1.trans (hb.mono h.1.size),fun i T l hi=>(h.2 i T l hi).below hb (h.2 i T l hi).lt⟩
theorem Held.drew(h:Held w0 ls w):Held w0 ls w.drew:=⟨h.1.drew,h.2⟩
theorem Held.row(h:Held w0 ls w)(i:Nat)(hi:ls[i]? =some (T,l)):Row w (w0.heap.size+i) T l:=h.2 i T l hi
theorem Held.row0(h:Held w0 ls w)(hi:ls[0]? =some (T,l)):Row w w0.heap.size T l:=h.2 0 T l hi
theorem Held.set(h:Held w0 ls w)(i j:Nat)(hi:ls[i]? =some (T,l))(v:Value):Held w0 (ls.set i (T,l.set j v)) (w.setCell ⟨w0.heap.size+i,j,none⟩ v):=by
 refine⟨h.1.setCell (Nat.le_add_right _ _) v,?_⟩;intro k T' l' hk;by_cases e:i=k
 .subst e;have hlt:=(gS hi).1;rw[getElem?_set_self hlt]at hk;have:=sI hk;obtain⟨rfl,rfl⟩:=Prod.mk.inj this;exact(h.2 i T l hi).set j v
 .rw[List.getElem?_set_ne e]at hk;exact(h.2 k T' l' hk).set_ne (by show w0.heap.size+i≠w0.heap.size+k;omega) v
theorem Held.put3(h:Held w0 ls w)(i:Nat){x y z:Value}(hi:ls[i]? =some (T, [x,y,z]))(x' y' z':Value):
  Held w0 (ls.set i (T, [x',y',z'])) (((w.setCell ⟨w0.heap.size+i,0,none⟩ x').setCell ⟨w0.heap.size+i,1,none⟩ y').setCell ⟨w0.heap.size+i,2,none⟩ z'):=by
 have hlt:=(gS hi).1;have h1:=h.set i 0 hi x';have h2:=h1.set i 1 (getElem?_set_self hlt) y';have h3:=h2.set i 2 (getElem?_set_self (by simpa using hlt)) z';rw[set_set,set_set]at h3;exact h3
theorem Held.put3_0(h:Held w0 ls w){x y z:Value}(hi:ls[0]? =some (T, [x,y,z]))(x' y' z':Value):
  Held w0 (ls.set 0 (T, [x',y',z'])) (((w.setCell ⟨w0.heap.size,0,none⟩ x').setCell ⟨w0.heap.size,1,none⟩ y').setCell ⟨w0.heap.size,2,none⟩ z'):=h.put3 0 hi x' y' z'
theorem Held.past(h:Held w0 ls w){b:Nat}(hb:w0.heap.size+ls.length<=b)(j:Nat)(v:Value):Held w0 ls (w.setCell ⟨b,j,none⟩ v):=by
 refine⟨h.1.setCell (by show w0.heap.size<=b;omega) v,?_⟩;intro k T' l' hk;have hlt:=(gS hk).1;exact(h.2 k T' l' hk).set_ne (by show b≠w0.heap.size+k;omega) v
theorem Held.past3(h:Held w0 ls w){b:Nat}(hb:w0.heap.size+ls.length<=b)(x y z:Value):Held w0 ls (((w.setCell ⟨b,0,none⟩ x).setCell ⟨b,1,none⟩ y).setCell ⟨b,2,none⟩ z):=((h.past hb 0 x).past hb 1 y).past hb 2 z
theorem Held.two{x y z:Nat×List Value}(h:Held w0 [x,y,z] w):Held w0 [x,y] w:=by
 refine⟨h.1,fun i T l hi=>h.2 i T l ?_⟩
 match i,hi with
 |0,hi=>exact hi
 |1,hi=>exact hi
theorem Held.tab(h:Held w0 ls w)(hT:Tab w0):Tab w:=hT.below h.1 (Nat.le_refl _)
end
end Go.Proofs.YtnhfpbcbhnfeaaaGreatDoor.held
namespace Go.Proofs.YtnhfpbcbhnfeaaaGreatDoor.ratA
open Go.RowKit num mem natA natB natC natD natE natI seg natN natO q held
theorem ZkE(w:World):Calls Tryz.prog 149 #[] w fun e w'=>e= .returned (.agg #[.bool false,.string ⟨#[]⟩,.string ⟨#[1]⟩])/\Below w.heap.size w w':=by
 go_enter Tryz.func149,Tryz.ntmps149
 go_wp2_with fail;simp[bodyPost,results,Tryz.results149,go_sem];exact(Below.refl _ _).alloc (Nat.le_refl _) _
theorem ZeP{d:ByteArray}(h:¬d=⟨#[]⟩):d.toList.isEmpty=false/\0<d.size:=by
 have hs:0<d.size:=by
  apply Nat.pos_of_ne_zero;intro h0;apply h;apply ZcE;exact List.eq_nil_of_length_eq_zero (by rw[ba_length];exact h0)
 refine⟨?_,hs⟩;rw[Lib.toList_data]
 cases e:d.data.toList with
 |nil=>have:=ba_length d;rw[e]at this;simp at this;omega
 |cons x l=>rfl
theorem Zcu{d:ByteArray}(h:0<d.size)(h0:d[0]=0):¬enc (nv d)=d:=by
 intro e;have h1:=ZdR d h;have h2:d.data.toList=digs (nv d):=by rw[<-Zbn,e]
 rw[h2]at h1;exact Zrj _ _ _ h1 h0
theorem Ze6{d:ByteArray}(h:0<d.size)(h0:¬d[0]=0):(((d[0]).toNat:Int)==0)=false:=by
 have:(d[0]).toNat≠0:=fun e=>h0 (UInt8.toNat_inj.1 (by simpa using e));simpa using this
theorem ZfT{t:ByteArray}(h:0<t.size)(e:enc (nv t)=t):0<nv t:=by
 apply Nat.pos_of_ne_zero;intro h0;rw[h0,ZV]at e;rw[<-e]at h;exact absurd h ωd
theorem ZbU:enc 1=⟨#[1]⟩:=by
 have h:nv ⟨#[1]⟩=1:=ωd;rw[<-h];exact Zcl (by intro c r e;simp at e;rw[<-e.1];decide)
theorem ZfE{d:ByteArray}:d.toList= [1]↔d=⟨#[1]⟩:=by
 rw[Lib.toList_data];constructor
 .intro h;exact ZcE h
 .intro h;rw[h]
theorem Zg0{d:ByteArray}:(d.toList== [1])=decide (d=⟨#[1]⟩):=by
 by_cases h:d.toList= [1]
 .rw[decide_eq_true (ZfE.1 h),h];rfl
 .rw[decide_eq_false (fun e=>h (ZfE.2 e))];simpa using h
theorem Zck(g:Nat):((enc g).toList== [1])=decide (g=1):=by
 rw[Zg0,<-ZbU];exact decide_eq_decide.2 Znl
theorem ZfX:nv ⟨#[1]⟩=1:=ωd
theorem Zbt:nv ⟨#[]⟩=0:=ωd
theorem ZhC(s:Bool)(a d:ByteArray)(w:World)(ha:a.size<=17592186044416)(hd:d.size<=17592186044416)(hT:Tab w):
  Calls Tryz.prog 148 #[.agg #[.bool s,.string a,.string d]] w fun e w'=>e= .returned (.bool (decide (good s a d)))/\Below w.heap.size w w':=by
 have hB:∀o,Below w.heap.size w (w.alloc o):=fun o=>(Below.refl _ _).alloc (Nat.le_refl _) o;by_cases hd0:d=⟨#[]⟩
 .subst hd0;have HE:=Lib.hid (show false=decide (good s a ⟨#[]⟩) by
   symm;apply decide_eq_false;intro h;have:=h.2.2.1;rw[Zbt]at this;omega)
  go_enter Tryz.func148,Tryz.ntmps148
  go_wp2_with fail
  go_ret
  exact⟨Zaf HE.out,hB _⟩
 .obtain⟨hdn,hds⟩:=ZeP hd0;by_cases hd1:d[0]=0
  .have h1:(((d[0]).toNat:Int)==0)=true:=by rw[hd1];rfl
   have HE:=Lib.hid (show false=decide (good s a d) by
    symm;apply decide_eq_false;intro h;exact Zcu hds hd1 h.2.1)
   clear hd0 hd1
   go_enter Tryz.func148,Tryz.ntmps148
   go_wp2_with fail
   go_ret
   exact⟨Zaf HE.out,hB _⟩
  .have h1:=Ze6 hds hd1;have hdc:=Zg2 d hds h1;have hdp:=ZfT hds hdc;have HD:=Lib.hid (And.intro hdc hdp);clear hd0 hd1 hdc hdp;by_cases ha0:a=⟨#[]⟩
   .subst ha0
    cases s with
    |true=>
     have HE:=Lib.hid (show false=decide (good true ⟨#[]⟩ d) by
      symm;apply decide_eq_false;intro h;exact absurd (h.2.2.2.1 Zbt) ωd)
     go_enter Tryz.func148,Tryz.ntmps148
     go_wp2_with fail
     go_ret
     exact⟨Zaf HE.out,hB _⟩
    |false=>
     by_cases ho:d=⟨#[1]⟩
     .subst ho;have HE:=Lib.hid (show true=decide (good false ⟨#[]⟩ ⟨#[1]⟩) by
       symm;apply decide_eq_true;exact⟨by rw[Zbt,ZV],by rw[ZfX,ZbU],by rw[ZfX];omega,fun _=>rfl,by rw[Zbt,ZfX];rfl⟩)
      go_enter Tryz.func148,Tryz.ntmps148
      go_wp2_with fail
      go_ret
      exact⟨Zaf HE.out,hB _⟩
     .have hot:(d.toList== [1])=false:=by rw[Zg0];simpa using ho
      have HE:=Lib.hid (show false=decide (good false ⟨#[]⟩ d) by
       symm;apply decide_eq_false;intro h;have h5:=h.2.2.2.2;rw[Zbt,Nat.gcd_zero_left]at h5;apply ho;rw[<-HD.out.1,h5,ZbU])
      clear ho
      go_enter Tryz.func148,Tryz.ntmps148
      go_wp2_with fail
      go_ret
      exact⟨Zaf HE.out,hB _⟩
   .obtain⟨han,has⟩:=ZeP ha0;by_cases ha1:a[0]=0
    .have h2:(((a[0]).toNat:Int)==0)=true:=by rw[ha1];rfl
     have HE:=Lib.hid (show false=decide (good s a d) by
      symm;apply decide_eq_false;intro h;exact Zcu has ha1 h.1)
     clear ha0 ha1
     go_enter Tryz.func148,Tryz.ntmps148
     go_wp2_with fail
     go_ret
     exact⟨Zaf HE.out,hB _⟩
    .have h2:=Ze6 has ha1;have hac:=Zg2 a has h2;have hap:=ZfT has hac;have HA:=Lib.hid (And.intro hac hap);have hgood:Nat.gcd (nv a) (nv d)=1↔good s a d:=⟨fun h=>⟨HA.out.1,HD.out.1,HD.out.2,fun h0=>absurd h0 (by have:=HA.out.2;omega),h⟩,fun h=>h.2.2.2.2⟩;clear ha0 ha1 hac hap;by_cases ho:d=⟨#[1]⟩
     .subst ho;have HE:=Lib.hid (show true=decide (good s a ⟨#[1]⟩) by
       symm;apply decide_eq_true;apply hgood.1;rw[ZfX,Nat.gcd_one_right])
      clear hgood
      go_enter Tryz.func148,Tryz.ntmps148
      go_wp2_with fail
      go_ret
      exact⟨Zaf HE.out,hB _⟩
     .have hot:(d.toList== [1])=false:=by rw[Zg0];simpa using ho
      have HE:=Lib.hid (show decide (Nat.gcd (nv a) (nv d)=1)=decide (good s a d) from decide_eq_decide.2 hgood);obtain⟨g,hg⟩:∃g,Nat.gcd (nv a) (nv d)=g:=⟨_,rfl⟩;have Hg:=Lib.hid hg;have hgt:=Zck g;clear ho hgood hg
      go_enter Tryz.func148,Tryz.ntmps148
      go_wp2_with fail;refine(Zkz a d _ ha hd (hT.below (hB _) (Nat.le_refl _))).mono ?_;rintro e w2 ⟨rfl,hb2⟩;rw[Hg.out];go_wp2_with fail
      go_ret
      exact⟨Zaf (by rw[<-HE.out];exact decide_eq_decide.2 (by rw[Hg.out])),(hB _).trans (hb2.mono (hB _).size)⟩
def Gives(q:Rat)(w:World)(e:Ending)(w':World):Prop:=∃u c f,e= .returned (.agg #[.bool u,.string c,.string f])/\Is q u c f/\Below w.heap.size w w'
theorem Zfv(s:Bool)(a d:ByteArray):qs (qv s a d)<=max (max a.size d.size) 1:=by
 unfold qv;split
 .rename_i h;refine Zei (by have:=h.2.2.1;omega) ?_ ?_
  .rw[ZbE];exact Nat.lt_of_lt_of_le (Zym a) (Nat.pow_le_pow_right ω ω)
  .exact Nat.lt_of_lt_of_le (Zym d) (Nat.pow_le_pow_right ω ω)
 .have h0:qs 0<=1:=by rw[qs_le];decide
  omega
theorem ZbH{W w:World}{b:Nat}{x y z:Value}(h:Below W.heap.size W w)(hb:W.heap.size<=b):Below W.heap.size W (((w.setCell ⟨b,0,none⟩ x).setCell ⟨b,1,none⟩ y).setCell ⟨b,2,none⟩ z):=
 ((h.setCell hb _).setCell hb _).setCell hb _
theorem Zak(s:Bool)(a d:ByteArray)(w:World)(ha:a.size<=17592186044416)(hd:d.size<=17592186044416)(hT:Tab w):
  Calls Tryz.prog 91 #[.agg #[.bool s,.string a,.string d]] w fun e w'=>Gives (qv s a d) w e w':=by
 have hB:∀o o',Below w.heap.size w ((w.alloc o).alloc o'):=fun o o'=>((Below.refl _ _).alloc (Nat.le_refl _) o).alloc (by simp) o';have rA:Row ((w.alloc (.cells #[.bool s,.string a,.string d] 23)).alloc (.cells #[.bool false,.string ⟨#[]⟩,.string ⟨#[]⟩] 23)) w.heap.size 23 [.bool s,.string a,.string d]:=(Row.alloc_new w 23 [.bool s,.string a,.string d]).alloc _;have rR:Row ((w.alloc (.cells #[.bool s,.string a,.string d] 23)).alloc (.cells #[.bool false,.string ⟨#[]⟩,.string ⟨#[]⟩] 23)) (w.heap.size+1) 23 [.bool false,.string ⟨#[]⟩,.string ⟨#[]⟩]:=by
  have:=Row.alloc_new (w.alloc (.cells #[.bool s,.string a,.string d] 23)) 23 [.bool false,.string ⟨#[]⟩,.string ⟨#[]⟩];simpa using this
 by_cases hg:good s a d
 .have HG:=Lib.hid hg;have hdg:decide (good s a d)=true:=by simpa using hg
  clear hg
  go_enter Tryz.func91,Tryz.ntmps91
  go_wp2_with fail;refine(ZhC s a d _ ha hd (hT.below (hB _ _) (Nat.le_refl _))).mono ?_;rintro e w2 ⟨rfl,hb2⟩;rw[hdg];obtain⟨a0,a1,a2,_,_,_⟩:=row3 (rA.below hb2 rA.lt);obtain⟨r0,r1,r2,f0,f1,f2⟩:=row3 (rR.below hb2 rR.lt);have hB2:=(hB _ _).trans (hb2.mono (hB _ _).size);clear rA rR hB hb2;go_wp2_with fail;simp[bodyPost,results,Tryz.results91,go_sem,r0,r1,r2];exact⟨_,_,_,rfl,Zf7 HG.out,ZbH hB2 ω⟩
 .have HG:=Lib.hid (show qv s a d=0 by unfold qv;rw[if_neg hg]);have hdg:decide (good s a d)=false:=by simpa using hg
  clear hg
  go_enter Tryz.func91,Tryz.ntmps91
  go_wp2_with fail;refine(ZhC s a d _ ha hd (hT.below (hB _ _) (Nat.le_refl _))).mono ?_;rintro e w2 ⟨rfl,hb2⟩;rw[hdg];go_wp2_with fail;refine(ZkE _).mono ?_;rintro e w3 ⟨rfl,hb3⟩;have rR3:=(rR.below hb2 rR.lt).below hb3 (rR.below hb2 rR.lt).lt;obtain⟨r0,r1,r2,f0,f1,f2⟩:=row3 rR3;have hB2:=(hB _ _).trans (hb2.mono (hB _ _).size);have hB3:=hB2.trans (hb3.mono hB2.size);clear rA rR rR3 hB hb2 hb3 hB2;go_wp2_with fail;simp[bodyPost,results,Tryz.results91,go_sem,r0,r1,r2];exact⟨_,_,_,rfl,by rw[HG.out];exact ZqG,ZbH hB3 ω⟩
theorem Zwr{s:Bool}{n d:Nat}(hn:0<n)(hd:0<d):Is (mkRat (sg s n) d) s (enc (n/Nat.gcd n d)) (enc (d/Nat.gcd n d)):=by
 have hg:0<Nat.gcd n d:=Nat.gcd_pos_of_pos_left _ hn;have h1:(mkRat (sg s n) d).den=d/Nat.gcd n d:=by
  rw[Rat.den_mkRat,if_neg ω,ZbE,Nat.gcd_comm]
 have h2:(mkRat (sg s n) d).num=sg s (n/Nat.gcd n d):=by
  rw[Rat.num_mkRat,if_neg ω,ZbE,Nat.gcd_comm];unfold sg
  cases s with
  |false=>simp
  |true=>
   have:((Nat.gcd n d:Nat):Int) ∣ (n:Int):=Int.ofNat_dvd.2 (Nat.gcd_dvd_left n d);simp[Int.neg_ediv_of_dvd this]
 have h3:0<n/Nat.gcd n d:=Nat.div_pos (Nat.le_of_dvd hn (Nat.gcd_dvd_left n d)) hg;refine⟨?_,?_,?_⟩
 .rw[h2];unfold sg;generalize n/Nat.gcd n d=k at h3
  cases s with
  |false=>simp
  |true=>simp;omega
 .rw[h2,ZbE]
 .rw[h1]
theorem Zcs(s:Bool)(n d:Nat)(w:World)(hn:(enc n).size<=17592186044416)(hd:(enc d).size<=17592186044416)(hd0:0<d)(hT:Tab w):
  Calls Tryz.prog 94 #[.bool s,.string (enc n),.string (enc d)] w fun e w'=>Gives (mkRat (sg s n) d) w e w':=by
 have hB:∀o,Below w.heap.size w (w.alloc o):=fun o=>(Below.refl _ _).alloc (Nat.le_refl _) o;have rR:Row (w.alloc (.cells #[.bool false,.string ⟨#[]⟩,.string ⟨#[]⟩] 23)) w.heap.size 23 [.bool false,.string ⟨#[]⟩,.string ⟨#[]⟩]:=Row.alloc_new w 23 [.bool false,.string ⟨#[]⟩,.string ⟨#[]⟩];by_cases hn0:n=0
 .subst hn0;rw[ZV];have HQ:=Lib.hid (show mkRat (sg s 0) d=0 by unfold sg;simp)
  go_enter Tryz.func94,Tryz.ntmps94
  go_wp2_with fail;refine(ZkE _).mono ?_;rintro e w3 ⟨rfl,hb3⟩;obtain⟨r0,r1,r2,f0,f1,f2⟩:=row3 (rR.below hb3 rR.lt);have hB3:=(hB _).trans (hb3.mono (hB _).size);clear rR hB hb3;go_wp2_with fail;simp[bodyPost,results,Tryz.results94,go_sem,r0,r1,r2];exact⟨_,_,_,rfl,by rw[HQ.out];exact ZqG,ZbH hB3 ω⟩
 .have hne:=enc_ne (show 0<n by omega);have hdt:=Zck d;have Hn0:=Lib.hid (show 0<n by omega);have Hd0:=Lib.hid hd0;clear hn0;by_cases hd1:d=1
  .subst hd1;have HI:=Lib.hid (Zwr (s:=s) Hn0.out (show 0<1 by omega))
   go_enter Tryz.func94,Tryz.ntmps94
   go_wp2_with fail;simp[bodyPost,results,Tryz.results94,go_sem];exact⟨_,_,_,rfl,by have:=HI.out;rw[Nat.gcd_one_right,Nat.div_one,Nat.div_one]at this;exact this,hB _⟩
  .have hdt1:decide (d=1)=false:=by simpa using hd1
   rw[hdt1]at hdt;obtain⟨g,hg⟩:∃g,Nat.gcd n d=g:=⟨_,rfl⟩;have hI:=Zwr (s:=s) Hn0.out Hd0.out;rw[hg]at hI;have HI:=Lib.hid hI;have Hg:=Lib.hid hg;have hgp:0<g:=by rw[<-hg];exact Nat.gcd_pos_of_pos_left _ Hn0.out
   have hgt:=Zck g;have Hgn:=Lib.hid (show g<=n by rw[<-hg];exact Nat.gcd_le_left _ Hn0.out);clear hg hI hd1 hdt1;by_cases hg1:g=1
   .subst hg1
    go_enter Tryz.func94,Tryz.ntmps94
    go_wp2_with fail;refine(Zkz (enc n) (enc d) _ hn hd (hT.below (hB _) (Nat.le_refl _))).mono ?_;rintro e w3 ⟨rfl,hb3⟩;rw[Ze,Ze,Hg.out];obtain⟨r0,r1,r2,f0,f1,f2⟩:=row3 (rR.below hb3 rR.lt);have hB3:=(hB _).trans (hb3.mono (hB _).size);clear rR hB hb3;go_wp2_with fail;simp[bodyPost,results,Tryz.results94,go_sem,r0,r1,r2];exact⟨_,_,_,rfl,by have:=HI.out;rw[Nat.div_one,Nat.div_one]at this;exact this,ZbH hB3 ω⟩
   .have hgt1:decide (g=1)=false:=by simpa using hg1
    rw[hgt1]at hgt;clear hg1 hgt1;have hgs:(enc g).size<=17592186044416:=Nat.le_trans (ZaJ Hgn.out) hn
    go_enter Tryz.func94,Tryz.ntmps94
    go_wp2_with fail;refine(Zkz (enc n) (enc d) _ hn hd (hT.below (hB _) (Nat.le_refl _))).mono ?_;rintro e w3 ⟨rfl,hb3⟩;rw[Ze,Ze,Hg.out];have rR3:=rR.below hb3 rR.lt;have hB3:=(hB _).trans (hb3.mono (hB _).size);go_wp2_with fail;refine(ZhD (enc n) (enc g) _ ω ω (by rw[Ze];exact hgp)).mono ?_;rintro e w4 ⟨rfl,hb4⟩;rw[Ze,Ze];have rR4:=rR3.below hb4 rR3.lt;have hB4:=hB3.trans (hb4.mono hB3.size);go_wp2_with fail;refine(ZhD (enc d) (enc g) _ ω ω (by rw[Ze];exact hgp)).mono ?_;rintro e w5 ⟨rfl,hb5⟩;rw[Ze,Ze];have rR5:=rR4.below hb5 rR4.lt;have hB5:=hB4.trans (hb5.mono hB4.size);obtain⟨r0,r1,r2,f0,f1,f2⟩:=row3 rR5;clear rR rR3 rR4 rR5 hB hB3 hB4 hb3 hb4 hb5;go_wp2_with fail;simp[bodyPost,results,Tryz.results94,go_sem,r0,r1,r2];exact⟨_,_,_,rfl,HI.out,ZbH hB5 ω⟩
theorem Zo5{a b:Bool}{c d:ByteArray}(h:a=b)(h':c=d):Ending.returned (.tuple #[.bool a,.string c])= .returned (.tuple #[.bool b,.string d]):=by rw[h,h']
theorem ZfL(s t:Bool)(x y:Nat)(w:World)(hx:(enc x).size<=70368744177663)(hy:(enc y).size<=70368744177663):
  Calls Tryz.prog 112 #[.bool s,.string (enc x),.bool t,.string (enc y)] w fun e w'=>∃(u:Bool)(z:Nat),e= .returned (.tuple #[.bool u,.string (enc z)])/\sg u z=sg s x+sg t y/\Below w.heap.size w w':=by
 by_cases hst:s=t
 .subst hst
  go_enter Tryz.func112,Tryz.ntmps112
  go_wp2_with fail;refine(Add_any (enc x) (enc y) _ hx hy).mono ?_;rintro e w1 ⟨rfl,hb1⟩;rw[Ze,Ze];go_wp2_with fail
  go_ret2
  refine⟨_,_,Zo5 rfl rfl,?_,hb1⟩;cases s<;>simp[sg]<;>omega
 .have hne:(s==t)=false:=by simpa using hst
  by_cases hlt:x<y
  .have HE:=Lib.hid (show subE x y=1 by unfold subE;rw[if_pos hlt]);have HE2:=Lib.hid (show subE y x=0 by unfold subE;rw[if_neg ω]);have Hlt:=Lib.hid hlt;clear hlt
   go_enter Tryz.func112,Tryz.ntmps112
   go_wp2_with fail;refine(Zkn (enc x) (enc y) _ ω ω).mono ?_;rintro e w1 ⟨rfl,hb1⟩;rw[Ze,Ze,HE.out];go_wp2_with fail;refine(Zkn (enc y) (enc x) _ ω ω).mono ?_;rintro e w2 ⟨rfl,hb2⟩;rw[Ze,Ze,HE2.out];go_wp2_with fail
   go_ret2
   refine⟨_,_,Zo5 rfl rfl,?_,hb1.trans (hb2.mono hb1.size)⟩;have:=Hlt.out;cases s<;>cases t<;>simp_all[sg]<;>omega
  .have HE:=Lib.hid (show subE x y=0 by unfold subE;rw[if_neg hlt]);have Hlt:=Lib.hid hlt;clear hlt
   go_enter Tryz.func112,Tryz.ntmps112
   go_wp2_with fail;refine(Zkn (enc x) (enc y) _ ω ω).mono ?_;rintro e w1 ⟨rfl,hb1⟩;rw[Ze,Ze,HE.out];go_wp2_with fail
   go_ret2
   refine⟨_,_,Zo5 rfl rfl,?_,hb1⟩;have:=Hlt.out;cases s<;>cases t<;>simp_all[sg]<;>omega
end Go.Proofs.YtnhfpbcbhnfeaaaGreatDoor.ratA
namespace Go.Proofs.YtnhfpbcbhnfeaaaGreatDoor.ratB
open Go.RowKit num mem natA natB natC natD natE natI seg natM natN natO q ratA held
theorem Zv{fn:Func}{t:Tmp}(h:fn.results=#[.cell t 23])(tmps:Array Value){w:World}{b:Nat}{x y z:Value}(hp:tmps.getD t undef= .pointer (some ⟨b,0,none⟩))(hr:Row w b 23 [x,y,z]):
  (results fn tmps).run Tryz.prog w= .ok (.agg #[x,y,z]) w:=by
 obtain⟨r0,r1,r2,_⟩:=row3 hr;have hp':tmps[t]?.getD undef= .pointer (some ⟨b,0,none⟩):=by simpa using hp
 simp[results,h,hp',go_sem,r0,r1,r2]
theorem Zk4(s:Bool)(a d:ByteArray)(t:Bool)(c e:ByteArray)(w:World)(ha:a.size<=4398046511104)(hd:d.size<=4398046511104)(hc:c.size<=4398046511104)(he:e.size<=4398046511104)(hT:Tab w):
  Calls Tryz.prog 67 #[.agg #[.bool s,.string a,.string d],.agg #[.bool t,.string c,.string e]] w fun x w'=>Gives (qv s a d+qv t c e) w x w':=by
 have z1:=Zfv s a d;have z2:=Zfv t c e;obtain⟨p,hp⟩:∃p,qv s a d=p:=⟨_,rfl⟩;obtain⟨q,hq⟩:∃q,qv t c e=q:=⟨_,rfl⟩;rw[hp]at z1⊢;rw[hq]at z2⊢;have HP:=Lib.hid hp;have HQ:=Lib.hid hq;clear hp hq
 go_enter Tryz.func67,Tryz.ntmps67
 go_upto_region 1 with fail
 have hH:=Held.start3 w 23 23 23 [.bool s,.string a,.string d] [.bool t,.string c,.string e] [.bool false,.string ⟨#[]⟩,.string ⟨#[]⟩];obtain⟨W,hW⟩:∃W,W=(((w.alloc (.cells #[.bool s,.string a,.string d] 23)).alloc (.cells #[.bool t,.string c,.string e] 23)).alloc (.cells #[.bool false,.string ⟨#[]⟩,.string ⟨#[]⟩] 23)):=⟨_,rfl⟩;rw[<-hW]at hH⊢;clear hW
 go_cut [2,3,4] (fun s2 s3 s4 wx=>s2= .pointer (some ⟨w.heap.size,0,none⟩)/\s3= .pointer (some ⟨w.heap.size+1,0,none⟩)/\s4= .pointer (some ⟨w.heap.size+2,0,none⟩)/\∃u1 a1 d1 u2 a2 d2,Is p u1 a1 d1/\Is q u2 a2 d2/\Held w [(23, [.bool u1,.string a1,.string d1]),(23, [.bool u2,.string a2,.string d2]),(23, [.bool false,.string ⟨#[]⟩,.string ⟨#[]⟩])] wx)
 case first=>
  have hH0:=hH.drew;obtain⟨p0,p1,p2,_,_,_⟩:=row3 (hH0.row0 rfl);obtain⟨q0,q1,q2,_,_,_⟩:=row3 (hH0.row 1 rfl);have hT0:=hH0.tab hT;have ha':a.size<=17592186044416:=ω;have hd':d.size<=17592186044416:=ω;have hc':c.size<=17592186044416:=ω;have he':e.size<=17592186044416:=ω
  go_region_with (first
   |(go_at_call_of 91 (Value.string a);refine(Zak s a d _ ha' hd' ?_).mono ?_;(first|exact hTb|exact hT0);rintro _ wa ⟨ua,ca,fa,rfl,ia,hba⟩;rw[HP.out]at ia;(first|have hHa:=hHb.call hba|have hHa:=hH0.call hba);(have hTa:=hHa.tab hT);(obtain⟨p0,p1,p2,_,_,_⟩:=row3 (hHa.row0 rfl));(obtain⟨q0,q1,q2,_,_,_⟩:=row3 (hHa.row 1 rfl)))
   |(go_at_call_of 91 (Value.string c);refine(Zak t c e _ hc' he' ?_).mono ?_;(first|exact hTa|exact hT0);rintro _ wb ⟨ub,cb,fb,rfl,ib,hbb⟩;rw[HQ.out]at ib;(first|have hHb:=hHa.call hbb|have hHb:=hH0.call hbb);(have hTb:=hHb.tab hT);(obtain⟨p0,p1,p2,_,_,_⟩:=row3 (hHb.row0 rfl));(obtain⟨q0,q1,q2,_,_,_⟩:=row3 (hHb.row 1 rfl))))
  all_goals
   go_wp2_with fail
   go_meet
   first
    |exact⟨rfl,rfl,rfl,_,_,_,_,_,_,ia,ib,(hHb.put3_0 rfl _ _ _).put3 1 rfl _ _ _⟩
    |exact⟨rfl,rfl,rfl,_,_,_,_,_,_,ia,ib,(hHa.put3_0 rfl _ _ _).put3 1 rfl _ _ _⟩
 case rest=>
  obtain⟨rfl,rfl,rfl,u1,a1,d1,u2,a2,d2,i1,i2,hH⟩:=hcut;have s1:=i1.sz;have s2:=i2.sz;obtain⟨n1,m1,rfl,rfl,hn1,hm1,hm1p,hx1⟩:=i1.parts;obtain⟨n2,m2,rfl,rfl,hn2,hm2,hm2p,hx2⟩:=i2.parts;have sn1:(enc n1).size<=4398046511105:=ω;have sm1:(enc m1).size<=4398046511105:=ω;have sn2:(enc n2).size<=4398046511105:=ω;have sm2:(enc m2).size<=4398046511105:=ω;have H1:=Lib.hid (And.intro hn1 (And.intro hm1 hm1p));have H2:=Lib.hid (And.intro hn2 (And.intro hm2 hm2p));clear i1 i2 z1 z2 s1 s2 hn1 hm1 hm1p hn2 hm2 hm2p hx1 hx2 ha hd hc he;obtain⟨p0,p1,p2,_,_,_⟩:=row3 (hH.row0 rfl);obtain⟨q0,q1,q2,_,_,_⟩:=row3 (hH.row 1 rfl);by_cases hdd:m1=m2
  .subst hdd;go_wp2_with fail;refine(ZfL u1 u2 n1 n2 wc ω ω).mono ?_;rintro _ w5 ⟨u,z,rfl,huz,hb5⟩;have hH5:=hH.call hb5;obtain⟨p0,p1,p2,_,_,_⟩:=row3 (hH5.row0 rfl);have hz:(enc z).size<=4398046511106:=Nat.le_trans (ZaJ (Zh6 huz)) (ZdP sn1 sn2);have HZ:=Lib.hid (show mkRat (sg u z) m1=p+q by
    rw[huz,H1.out.1,H2.out.1,H1.out.2.1];exact Zus (by rw[<-H1.out.2.1,<-H2.out.2.1]))
   clear huz;go_wp2_with fail;refine(Zcs u z m1 w5 ω ω H1.out.2.2 (hH5.tab hT)).mono ?_;rintro _ w6 ⟨ur,zr,dr,rfl,ir,hb6⟩;rw[HZ.out]at ir;have hH6:=hH5.call hb6;obtain⟨r0,r1,r2,_,_,_⟩:=row3 (hH6.row 2 rfl);clear hH5 hH p0 p1 p2 q0 q1 q2;go_wp2_with fail;have hH7:=hH6.put3 2 rfl (.bool ur) (.string zr) (.string dr);exact bodyPost_ret (Zv rfl _ rfl (hH7.row 2 rfl)) rfl ⟨_,_,_,rfl,ir,hH7.1⟩
  .have hddt:((enc m1).toList==(enc m2).toList)=false:=by
    rw[Lib.toList_data,Lib.toList_data];simp only[beq_eq_false_iff_ne];intro e;exact hdd (Zfe (ZcE e))
   have P0:∀w',Held w [(23, [.bool u1,.string (enc n1),.string (enc m1)]),(23, [.bool u2,.string (enc n2),.string (enc m2)]),(23, [.bool false,.string ⟨#[]⟩,.string ⟨#[]⟩])] w'->
     Held w [(23, [.bool u1,.string (enc n1),.string (enc m1)]),(23, [.bool u2,.string (enc n2),.string (enc m2)]),(23, [.bool false,.string ⟨#[]⟩,.string ⟨#[]⟩])] w'/\w'.cell? ⟨w.heap.size,0,none⟩=some (.bool u1)/\w'.cell? ⟨w.heap.size,1,none⟩=some (.string (enc n1))/\w'.cell? ⟨w.heap.size,2,none⟩=some (.string (enc m1))/\
     w'.cell? ⟨w.heap.size+1,0,none⟩=some (.bool u2)/\w'.cell? ⟨w.heap.size+1,1,none⟩=some (.string (enc n2))/\w'.cell? ⟨w.heap.size+1,2,none⟩=some (.string (enc m2)):=fun w' h=>by
    obtain⟨a0,a1,a2,_⟩:=row3 (h.row0 rfl);obtain⟨b0,b1,b2,_⟩:=row3 (h.row 1 rfl);exact⟨h,a0,a1,a2,b0,b1,b2⟩
   have hsz:(enc (n1*m2)).size<=8796093022210:=Z9 sn1 sm2;have hsz2:(enc (n2*m1)).size<=8796093022210:=Z9 sn2 sm1;have HA:=Lib.hid (show mkRat (sg u1 (n1*m2)+sg u2 (n2*m1)) (m1*m2)=p+q from Zi6 H1.out.1 H1.out.2.1 H2.out.1 H2.out.2.1);go_wp2_with fail;clear p0 p1 p2 q0 q1 q2
   go_region_held3 (fun w'=>Held w [(23, [.bool u1,.string (enc n1),.string (enc m1)]),(23, [.bool u2,.string (enc n2),.string (enc m2)]),(23, [.bool false,.string ⟨#[]⟩,.string ⟨#[]⟩])] w'/\w'.cell? ⟨w.heap.size,0,none⟩=some (.bool u1)/\w'.cell? ⟨w.heap.size,1,none⟩=some (.string (enc n1))/\w'.cell? ⟨w.heap.size,2,none⟩=some (.string (enc m1))/\
     w'.cell? ⟨w.heap.size+1,0,none⟩=some (.bool u2)/\w'.cell? ⟨w.heap.size+1,1,none⟩=some (.string (enc n2))/\w'.cell? ⟨w.heap.size+1,2,none⟩=some (.string (enc m2)))
    (first|exact P0 _ hH.drew|exact P0 _ hHs|exact P0 _ hHa|exact P0 _ hHb)
    (first
     |(go_at_call_of 93 (Value.string (enc n1));refine(ZbA (enc n1) (enc m2) _ ω ω).mono ?_;rintro _ wa ⟨rfl,hba⟩;rw[Ze,Ze];(first|have hHa:=hHb.call hba|have hHa:=hH.drew.call hba))
     |(go_at_call_of 93 (Value.string (enc n2));refine(ZbA (enc n2) (enc m1) _ ω ω).mono ?_;rintro _ wb ⟨rfl,hbb⟩;rw[Ze,Ze];(first|have hHb:=hHa.call hbb|have hHb:=hH.drew.call hbb))
     |(go_at_call 112;refine(ZfL u1 u2 (n1*m2) (n2*m1) _ ω ω).mono ?_;rintro _ ws ⟨u,z,rfl,huz,hbs⟩;(first|have hHs:=hHb.call hbs|have hHs:=hHa.call hbs)))
   have hz:(enc z).size<=8796093022211:=Nat.le_trans (ZaJ (Zh6 huz)) (ZdP hsz hsz2);have hsz3:(enc (m1*m2)).size<=8796093022210:=Z9 sm1 sm2;have HU:=Lib.hid huz;have hmp:0<m1*m2:=Nat.mul_pos H1.out.2.2 H2.out.2.2;obtain⟨p0,p1,p2,_,_,_⟩:=row3 (hHs.row0 rfl);obtain⟨q0,q1,q2,_,_,_⟩:=row3 (hHs.row 1 rfl);clear huz hHa hHb hH P0;go_wp2_with fail;refine(ZbA (enc m1) (enc m2) ws ω ω).mono ?_;rintro _ w6 ⟨rfl,hb6⟩;rw[Ze,Ze];have hH6:=hHs.call hb6;clear p0 p1 p2 q0 q1 q2;go_wp2_with fail;refine(Zcs u z (m1*m2) w6 ω ω hmp (hH6.tab hT)).mono ?_;rintro _ w7 ⟨ur,zr,dr,rfl,ir,hb7⟩;rw[HU.out,HA.out]at ir;have hH7:=hH6.call hb7;obtain⟨r0,r1,r2,_,_,_⟩:=row3 (hH7.row 2 rfl);clear hHs hH6;go_wp2_with fail;have hH8:=hH7.put3 2 rfl (.bool ur) (.string zr) (.string dr);exact bodyPost_ret (Zv rfl _ rfl (hH8.row 2 rfl)) rfl ⟨_,_,_,rfl,ir,hH8.1⟩
end Go.Proofs.YtnhfpbcbhnfeaaaGreatDoor.ratB
namespace Go.Proofs.YtnhfpbcbhnfeaaaGreatDoor.ratC
open Go.RowKit num mem natA natB natC natD natE natI seg natM natN natO q ratA held ratB
theorem Zv2(s t:Bool)(x y:Nat):sg (s !=t) (x*y)=sg s x*sg t y:=by
 cases s<;>cases t<;>simp[sg,Int.neg_mul,Int.mul_neg]
theorem ZsU(s:Bool)(a d:ByteArray)(t:Bool)(c e:ByteArray)(w:World)(ha:a.size<=4398046511104)(hd:d.size<=4398046511104)(hc:c.size<=4398046511104)(he:e.size<=4398046511104)(hT:Tab w):
  Calls Tryz.prog 56 #[.agg #[.bool s,.string a,.string d],.agg #[.bool t,.string c,.string e]] w fun x w'=>Gives (qv s a d*qv t c e) w x w':=by
 have z1:=Zfv s a d;have z2:=Zfv t c e;obtain⟨p,hp⟩:∃p,qv s a d=p:=⟨_,rfl⟩;obtain⟨q,hq⟩:∃q,qv t c e=q:=⟨_,rfl⟩;rw[hp]at z1⊢;rw[hq]at z2⊢;have HP:=Lib.hid hp;have HQ:=Lib.hid hq;clear hp hq
 go_enter Tryz.func56,Tryz.ntmps56
 go_upto_region 1 with fail
 have hH:=Held.start3 w 23 23 23 [.bool s,.string a,.string d] [.bool t,.string c,.string e] [.bool false,.string ⟨#[]⟩,.string ⟨#[]⟩];obtain⟨W,hW⟩:∃W,W=(((w.alloc (.cells #[.bool s,.string a,.string d] 23)).alloc (.cells #[.bool t,.string c,.string e] 23)).alloc (.cells #[.bool false,.string ⟨#[]⟩,.string ⟨#[]⟩] 23)):=⟨_,rfl⟩;rw[<-hW]at hH⊢;clear hW
 go_cut [2,3,4] (fun s2 s3 s4 wx=>s2= .pointer (some ⟨w.heap.size,0,none⟩)/\s3= .pointer (some ⟨w.heap.size+1,0,none⟩)/\s4= .pointer (some ⟨w.heap.size+2,0,none⟩)/\∃u1 a1 d1 u2 a2 d2,Is p u1 a1 d1/\Is q u2 a2 d2/\Held w [(23, [.bool u1,.string a1,.string d1]),(23, [.bool u2,.string a2,.string d2]),(23, [.bool false,.string ⟨#[]⟩,.string ⟨#[]⟩])] wx)
 case first=>
  have hH0:=hH.drew;obtain⟨p0,p1,p2,_,_,_⟩:=row3 (hH0.row0 rfl);obtain⟨q0,q1,q2,_,_,_⟩:=row3 (hH0.row 1 rfl);have hT0:=hH0.tab hT;have ha':a.size<=17592186044416:=ω;have hd':d.size<=17592186044416:=ω;have hc':c.size<=17592186044416:=ω;have he':e.size<=17592186044416:=ω
  go_region_with (first
   |(go_at_call_of 91 (Value.string a);refine(Zak s a d _ ha' hd' ?_).mono ?_;(first|exact hTb|exact hT0);rintro _ wa ⟨ua,ca,fa,rfl,ia,hba⟩;rw[HP.out]at ia;(first|have hHa:=hHb.call hba|have hHa:=hH0.call hba);(have hTa:=hHa.tab hT);(obtain⟨p0,p1,p2,_,_,_⟩:=row3 (hHa.row0 rfl));(obtain⟨q0,q1,q2,_,_,_⟩:=row3 (hHa.row 1 rfl)))
   |(go_at_call_of 91 (Value.string c);refine(Zak t c e _ hc' he' ?_).mono ?_;(first|exact hTa|exact hT0);rintro _ wb ⟨ub,cb,fb,rfl,ib,hbb⟩;rw[HQ.out]at ib;(first|have hHb:=hHa.call hbb|have hHb:=hH0.call hbb);(have hTb:=hHb.tab hT);(obtain⟨p0,p1,p2,_,_,_⟩:=row3 (hHb.row0 rfl));(obtain⟨q0,q1,q2,_,_,_⟩:=row3 (hHb.row 1 rfl))))
  all_goals
   go_wp2_with fail
   go_meet
   first
    |exact⟨rfl,rfl,rfl,_,_,_,_,_,_,ia,ib,(hHb.put3_0 rfl _ _ _).put3 1 rfl _ _ _⟩
    |exact⟨rfl,rfl,rfl,_,_,_,_,_,_,ia,ib,(hHa.put3_0 rfl _ _ _).put3 1 rfl _ _ _⟩
 case rest=>
  obtain⟨rfl,rfl,rfl,u1,a1,d1,u2,a2,d2,i1,i2,hH⟩:=hcut;have s1:=i1.sz;have s2:=i2.sz;obtain⟨n1,m1,rfl,rfl,hn1,hm1,hm1p,hx1⟩:=i1.parts;obtain⟨n2,m2,rfl,rfl,hn2,hm2,hm2p,hx2⟩:=i2.parts;have sn1:(enc n1).size<=4398046511105:=ω;have sm1:(enc m1).size<=4398046511105:=ω;have sn2:(enc n2).size<=4398046511105:=ω;have sm2:(enc m2).size<=4398046511105:=ω;have I1:=Lib.hid i1;have I2:=Lib.hid i2;have H1:=Lib.hid (And.intro hn1 (And.intro hm1 hm1p));have H2:=Lib.hid (And.intro hn2 (And.intro hm2 hm2p));clear i1 i2 z1 z2 s1 s2 hn1 hm1 hm1p hn2 hm2 hm2p hx1 hx2 ha hd hc he;obtain⟨p0,p1,p2,_,_,_⟩:=row3 (hH.row0 rfl);obtain⟨q0,q1,q2,_,_,_⟩:=row3 (hH.row 1 rfl);have P0:∀w',Held w [(23, [.bool u1,.string (enc n1),.string (enc m1)]),(23, [.bool u2,.string (enc n2),.string (enc m2)])] w'->
    Held w [(23, [.bool u1,.string (enc n1),.string (enc m1)]),(23, [.bool u2,.string (enc n2),.string (enc m2)])] w'/\w'.cell? ⟨w.heap.size,0,none⟩=some (.bool u1)/\w'.cell? ⟨w.heap.size,1,none⟩=some (.string (enc n1))/\w'.cell? ⟨w.heap.size,2,none⟩=some (.string (enc m1))/\
    w'.cell? ⟨w.heap.size+1,0,none⟩=some (.bool u2)/\w'.cell? ⟨w.heap.size+1,1,none⟩=some (.string (enc n2))/\w'.cell? ⟨w.heap.size+1,2,none⟩=some (.string (enc m2)):=fun w' h=>by
   obtain⟨a0,a1,a2,_⟩:=row3 (h.row0 rfl);obtain⟨b0,b1,b2,_⟩:=row3 (h.row 1 rfl);exact⟨h,a0,a1,a2,b0,b1,b2⟩
  have hmp:0<m1*m2:=Nat.mul_pos H1.out.2.2 H2.out.2.2;have HA:=Lib.hid (show mkRat (sg (u1 !=u2) (n1*n2)) (m1*m2)=p*q by
   rw[Zv2,H1.out.1,H2.out.1,H1.out.2.1,H2.out.2.1,<-Rat.mul_def'])
  go_wp2_with fail;have hsz:(enc (n1*n2)).size<=8796093022210:=Z9 sn1 sn2;have hsz2:(enc (m1*m2)).size<=8796093022210:=Z9 sm1 sm2;clear p0 p1 p2 q0 q1 q2
  go_region_held3 (fun w'=>Held w [(23, [.bool u1,.string (enc n1),.string (enc m1)]),(23, [.bool u2,.string (enc n2),.string (enc m2)])] w'/\w'.cell? ⟨w.heap.size,0,none⟩=some (.bool u1)/\w'.cell? ⟨w.heap.size,1,none⟩=some (.string (enc n1))/\w'.cell? ⟨w.heap.size,2,none⟩=some (.string (enc m1))/\
    w'.cell? ⟨w.heap.size+1,0,none⟩=some (.bool u2)/\w'.cell? ⟨w.heap.size+1,1,none⟩=some (.string (enc n2))/\w'.cell? ⟨w.heap.size+1,2,none⟩=some (.string (enc m2)))
   (first|exact P0 _ hH.two.drew|exact P0 _ (hHm.two.past3 (by simp) _ _ _)|exact P0 _ hHm.two|exact P0 _ hHa.two|exact P0 _ hHb.two)
   (first
    |(go_at_call_of 93 (Value.string (enc n1));refine(ZbA (enc n1) (enc n2) _ ω ω).mono ?_;rintro _ wa ⟨rfl,hba⟩;rw[Ze,Ze];(first|have hHa:=hHb.call hba|have hHa:=hH.drew.call hba))
    |(go_at_call_of 93 (Value.string (enc m1));refine(ZbA (enc m1) (enc m2) _ ω ω).mono ?_;rintro _ wb ⟨rfl,hbb⟩;rw[Ze,Ze];(first|have hHb:=hHa.call hbb|have hHb:=hH.drew.call hbb))
    |(go_at_call 94;refine(Zcs (u1 !=u2) (n1*n2) (m1*m2) _ ω ω hmp ?_).mono ?_;(first|exact hHb.tab hT|exact hHa.tab hT);rintro _ wm ⟨ur,zr,dr,rfl,ir,hbm⟩;rw[HA.out]at ir;(first|have hHm:=hHb.call hbm|have hHm:=hHa.call hbm);(obtain⟨r0,r1,r2,f0,f1,f2⟩:=row3 (hHm.row 2 rfl))))
  go_wp2_with fail;have hH8:=hHm.put3 2 rfl (.bool ur) (.string zr) (.string dr);exact bodyPost_ret (Zv rfl _ rfl (hH8.row 2 rfl)) rfl ⟨_,_,_,rfl,ir,hH8.1⟩
theorem Zb8{fn:Func}{t u:Tmp}(h:fn.results=#[.cell t 23,.tmp u])(tmps:Array Value){w:World}{b:Nat}{x y z v:Value}(hp:tmps.getD t undef= .pointer (some ⟨b,0,none⟩))(hv:tmps.getD u undef=v)(hr:Row w b 23 [x,y,z]):
  (results fn tmps).run Tryz.prog w= .ok (.tuple #[.agg #[x,y,z],v]) w:=by
 obtain⟨r0,r1,r2,_⟩:=row3 hr;have hp':tmps[t]?.getD undef= .pointer (some ⟨b,0,none⟩):=by simpa using hp
 have hv':tmps[u]?.getD undef=v:=by simpa using hv
 simp[results,h,hp',hv',go_sem,r0,r1,r2]
def Quot(p q:Rat)(w:World)(e:Ending)(w':World):Prop:=∃u c f k,e= .returned (.tuple #[.agg #[.bool u,.string c,.string f],.int .i64 k])/\(q=0/\u=false/\c=⟨#[]⟩/\f=⟨#[]⟩/\k=12\/q≠0/\k=0/\Is (p/q) u c f)/\Below w.heap.size w w'
theorem ZiR{p q:Rat}{s t:Bool}{n m k l:Nat}(h1:sg s n=p.num)(h2:m=p.den)(h3:sg t k=q.num)(h4:l=q.den)(hk:0<k)(_hm:0<m):mkRat (sg (s !=t) (n*l)) (m*k)=p/q:=by
 have hq0:q.num≠0:=by
  rw[<-h3];intro h;have:=congrArg Int.natAbs h;rw[ZbE]at this;simp at this;omega
 have hinv:q⁻¹=mkRat (sg t l) k:=by
  have e1:k=q.num.natAbs:=by rw[<-h3,ZbE]
  have e2:sg t l=q.num.sign*(q.den:Int):=by
   rw[<-h3,<-h4];unfold sg
   cases t with
   |false=>simp[Int.sign_eq_one_of_pos (show (0:Int)<(k:Int) by omega)]
   |true=>simp[Int.sign_eq_one_of_pos (show (0:Int)<(k:Int) by omega)]
  rw[<-Rat.mkRat_self q⁻¹,Rat.num_inv,Rat.den_inv,if_neg hq0,e2,e1]
 rw[Rat.div_def,hinv,<-Rat.mkRat_self p,<-h1,<-h2,Rat.mkRat_mul_mkRat,Zv2]
theorem Zk3(s:Bool)(a d:ByteArray)(t:Bool)(c e:ByteArray)(w:World)(ha:a.size<=4398046511104)(hd:d.size<=4398046511104)(hc:c.size<=4398046511104)(he:e.size<=4398046511104)(hT:Tab w):
  Calls Tryz.prog 53 #[.agg #[.bool s,.string a,.string d],.agg #[.bool t,.string c,.string e]] w fun x w'=>Quot (qv s a d) (qv t c e) w x w':=by
 have z1:=Zfv s a d;have z2:=Zfv t c e;obtain⟨p,hp⟩:∃p,qv s a d=p:=⟨_,rfl⟩;obtain⟨q,hq⟩:∃q,qv t c e=q:=⟨_,rfl⟩;rw[hp]at z1⊢;rw[hq]at z2⊢;have HP:=Lib.hid hp;have HQ:=Lib.hid hq;clear hp hq
 go_enter Tryz.func53,Tryz.ntmps53
 go_upto_region 1 with fail
 have hH:=Held.start3 w 23 23 23 [.bool s,.string a,.string d] [.bool t,.string c,.string e] [.bool false,.string ⟨#[]⟩,.string ⟨#[]⟩];obtain⟨W,hW⟩:∃W,W=(((w.alloc (.cells #[.bool s,.string a,.string d] 23)).alloc (.cells #[.bool t,.string c,.string e] 23)).alloc (.cells #[.bool false,.string ⟨#[]⟩,.string ⟨#[]⟩] 23)):=⟨_,rfl⟩;rw[<-hW]at hH⊢;clear hW
 go_cut [2,3,4] (fun s2 s3 s4 wx=>s2= .pointer (some ⟨w.heap.size,0,none⟩)/\s3= .pointer (some ⟨w.heap.size+1,0,none⟩)/\s4= .pointer (some ⟨w.heap.size+2,0,none⟩)/\∃u1 a1 d1 u2 a2 d2,Is p u1 a1 d1/\Is q u2 a2 d2/\Held w [(23, [.bool u1,.string a1,.string d1]),(23, [.bool u2,.string a2,.string d2]),(23, [.bool false,.string ⟨#[]⟩,.string ⟨#[]⟩])] wx)
 case first=>
  have hH0:=hH.drew;obtain⟨p0,p1,p2,_,_,_⟩:=row3 (hH0.row0 rfl);obtain⟨q0,q1,q2,_,_,_⟩:=row3 (hH0.row 1 rfl);have hT0:=hH0.tab hT;have ha':a.size<=17592186044416:=ω;have hd':d.size<=17592186044416:=ω;have hc':c.size<=17592186044416:=ω;have he':e.size<=17592186044416:=ω
  go_region_with (first
   |(go_at_call_of 91 (Value.string a);refine(Zak s a d _ ha' hd' ?_).mono ?_;(first|exact hTb|exact hT0);rintro _ wa ⟨ua,ca,fa,rfl,ia,hba⟩;rw[HP.out]at ia;(first|have hHa:=hHb.call hba|have hHa:=hH0.call hba);(have hTa:=hHa.tab hT);(obtain⟨p0,p1,p2,_,_,_⟩:=row3 (hHa.row0 rfl));(obtain⟨q0,q1,q2,_,_,_⟩:=row3 (hHa.row 1 rfl)))
   |(go_at_call_of 91 (Value.string c);refine(Zak t c e _ hc' he' ?_).mono ?_;(first|exact hTa|exact hT0);rintro _ wb ⟨ub,cb,fb,rfl,ib,hbb⟩;rw[HQ.out]at ib;(first|have hHb:=hHa.call hbb|have hHb:=hH0.call hbb);(have hTb:=hHb.tab hT);(obtain⟨p0,p1,p2,_,_,_⟩:=row3 (hHb.row0 rfl));(obtain⟨q0,q1,q2,_,_,_⟩:=row3 (hHb.row 1 rfl))))
  all_goals
   go_wp2_with fail
   go_meet
   first
    |exact⟨rfl,rfl,rfl,_,_,_,_,_,_,ia,ib,(hHb.put3_0 rfl _ _ _).put3 1 rfl _ _ _⟩
    |exact⟨rfl,rfl,rfl,_,_,_,_,_,_,ia,ib,(hHa.put3_0 rfl _ _ _).put3 1 rfl _ _ _⟩
 case rest=>
  obtain⟨rfl,rfl,rfl,u1,a1,d1,u2,a2,d2,i1,i2,hH⟩:=hcut;have s1:=i1.sz;have s2:=i2.sz;obtain⟨n1,m1,rfl,rfl,hn1,hm1,hm1p,hx1⟩:=i1.parts;obtain⟨n2,m2,rfl,rfl,hn2,hm2,hm2p,hx2⟩:=i2.parts;have sn1:(enc n1).size<=4398046511105:=ω;have sm1:(enc m1).size<=4398046511105:=ω;have sn2:(enc n2).size<=4398046511105:=ω;have sm2:(enc m2).size<=4398046511105:=ω;have I1:=Lib.hid i1;have I2:=Lib.hid i2;have H1:=Lib.hid (And.intro hn1 (And.intro hm1 hm1p));have H2:=Lib.hid (And.intro hn2 (And.intro hm2 hm2p));clear i1 i2 z1 z2 s1 s2 hn1 hm1 hm1p hn2 hm2 hm2p hx1 hx2 ha hd hc he;obtain⟨p0,p1,p2,_,_,_⟩:=row3 (hH.row0 rfl);obtain⟨q0,q1,q2,_,_,_⟩:=row3 (hH.row 1 rfl);have P0:∀w',Held w [(23, [.bool u1,.string (enc n1),.string (enc m1)]),(23, [.bool u2,.string (enc n2),.string (enc m2)])] w'->
    Held w [(23, [.bool u1,.string (enc n1),.string (enc m1)]),(23, [.bool u2,.string (enc n2),.string (enc m2)])] w'/\w'.cell? ⟨w.heap.size,0,none⟩=some (.bool u1)/\w'.cell? ⟨w.heap.size,1,none⟩=some (.string (enc n1))/\w'.cell? ⟨w.heap.size,2,none⟩=some (.string (enc m1))/\
    w'.cell? ⟨w.heap.size+1,0,none⟩=some (.bool u2)/\w'.cell? ⟨w.heap.size+1,1,none⟩=some (.string (enc n2))/\w'.cell? ⟨w.heap.size+1,2,none⟩=some (.string (enc m2)):=fun w' h=>by
   obtain⟨a0,a1,a2,_⟩:=row3 (h.row0 rfl);obtain⟨b0,b1,b2,_⟩:=row3 (h.row 1 rfl);exact⟨h,a0,a1,a2,b0,b1,b2⟩
  by_cases hn0:n2=0
  .subst hn0;have hq0:q=0:=by
    apply Rat.num_eq_zero.1;rw[<-H2.out.1];unfold sg;simp
   have HQ0:=Lib.hid hq0;rw[ZV]at q1;obtain⟨r0,r1,r2,f0,f1,f2⟩:=row3 (hH.row 2 rfl);clear hq0;go_wp2_with fail;have hH8:=hH.put3 2 rfl (.bool false) (.string ⟨#[]⟩) (.string ⟨#[]⟩);exact bodyPost_ret (Zb8 rfl _ rfl rfl (hH8.row 2 rfl)) rfl ⟨_,_,_,_,rfl,.inl ⟨HQ0.out,rfl,rfl,rfl,rfl⟩,hH8.1⟩
  .have hnt:=enc_ne (show 0<n2 by omega);have hmp:0<m1*n2:=Nat.mul_pos H1.out.2.2 ω;have HA:=Lib.hid (show mkRat (sg (u1 !=u2) (n1*m2)) (m1*n2)=p/q from ZiR H1.out.1 H1.out.2.1 H2.out.1 H2.out.2.1 ω H1.out.2.2);have HQ0:=Lib.hid (show q≠0 by
    intro h;have:=H2.out.1;rw[h]at this;have:=congrArg Int.natAbs this;rw[ZbE]at this;simp at this;exact hn0 this)
   clear hn0;go_wp2_with fail;have hsz:(enc (n1*m2)).size<=8796093022210:=Z9 sn1 sm2;have hsz2:(enc (m1*n2)).size<=8796093022210:=Z9 sm1 sn2;clear p0 p1 p2 q0 q1 q2
   go_region_held3 (fun w'=>Held w [(23, [.bool u1,.string (enc n1),.string (enc m1)]),(23, [.bool u2,.string (enc n2),.string (enc m2)])] w'/\w'.cell? ⟨w.heap.size,0,none⟩=some (.bool u1)/\w'.cell? ⟨w.heap.size,1,none⟩=some (.string (enc n1))/\w'.cell? ⟨w.heap.size,2,none⟩=some (.string (enc m1))/\
     w'.cell? ⟨w.heap.size+1,0,none⟩=some (.bool u2)/\w'.cell? ⟨w.heap.size+1,1,none⟩=some (.string (enc n2))/\w'.cell? ⟨w.heap.size+1,2,none⟩=some (.string (enc m2)))
    (first|exact P0 _ hH.two.drew|exact P0 _ (hHm.two.past3 (by simp) _ _ _)|exact P0 _ hHm.two|exact P0 _ hHa.two|exact P0 _ hHb.two)
    (first
     |(go_at_call_of 93 (Value.string (enc n1));refine(ZbA (enc n1) (enc m2) _ ω ω).mono ?_;rintro _ wa ⟨rfl,hba⟩;rw[Ze,Ze];(first|have hHa:=hHb.call hba|have hHa:=hH.drew.call hba))
     |(go_at_call_of 93 (Value.string (enc m1));refine(ZbA (enc m1) (enc n2) _ ω ω).mono ?_;rintro _ wb ⟨rfl,hbb⟩;rw[Ze,Ze];(first|have hHb:=hHa.call hbb|have hHb:=hH.drew.call hbb))
     |(go_at_call 94;refine(Zcs (u1 !=u2) (n1*m2) (m1*n2) _ ω ω hmp ?_).mono ?_;(first|exact hHb.tab hT|exact hHa.tab hT);rintro _ wm ⟨ur,zr,dr,rfl,ir,hbm⟩;rw[HA.out]at ir;(first|have hHm:=hHb.call hbm|have hHm:=hHa.call hbm);(obtain⟨r0,r1,r2,f0,f1,f2⟩:=row3 (hHm.row 2 rfl))))
   go_wp2_with fail;have hH8:=hHm.put3 2 rfl (.bool ur) (.string zr) (.string dr);exact bodyPost_ret (Zb8 rfl _ rfl rfl (hH8.row 2 rfl)) rfl ⟨_,_,_,_,rfl,.inr ⟨HQ0.out,rfl,ir⟩,hH8.1⟩
end Go.Proofs.YtnhfpbcbhnfeaaaGreatDoor.ratC
namespace Go.Proofs.YtnhfpbcbhnfeaaaGreatDoor.ratD
open Go.RowKit num mem natA natB natC natD natE natI seg natM natN natO q ratA held ratB ratC
def cmpQ(p q:Rat):Int:=if p<q then -1 else if q<p then 1 else 0
theorem Zru{p q:Rat}{u1 u2:Bool}(h1:u1=decide (p.num<0))(h2:u2=decide (q.num<0))(hne:¬u1=u2):cmpQ p q=if u1 then -1 else 1:=by
 have d1:(0:Int)<(p.den:Int):=by have:=p.den_nz;omega
 have d2:(0:Int)<(q.den:Int):=by have:=q.den_nz;omega
 have key:∀x y:Rat,(0:Int)<(x.den:Int)->(0:Int)<(y.den:Int)->x.num<0->¬y.num<0->x<y:=by
  intro x y hx hy h h';rw[Rat.lt_iff];have e1:=Int.mul_neg_of_neg_of_pos h hy;have e2:=Int.mul_nonneg (Int.not_lt.1 h') (Int.le_of_lt hx);omega
 unfold cmpQ
 cases hu:u1 with
 |true=>
  have a1:p.num<0:=by rw[hu]at h1;simpa using h1.symm
  have a2:¬q.num<0:=by
   intro h;apply hne;rw[h1,h2,decide_eq_true a1,decide_eq_true h]
  rw[if_pos (key p q d1 d2 a1 a2)];rfl
 |false=>
  have a1:¬p.num<0:=by rw[hu]at h1;simpa using h1.symm
  have a2:q.num<0:=by
   apply Decidable.byContradiction;intro h;apply hne;rw[h1,h2,decide_eq_false a1,decide_eq_false h]
  have hlt:=key q p d2 d1 a2 a1;rw[if_neg (Rat.not_lt.2 (Rat.le_of_lt hlt)),if_pos hlt];rfl
theorem Zrv{p q:Rat}{u:Bool}{n1 m1 n2 m2:Nat}(h1:sg u n1=p.num)(h2:m1=p.den)(h3:sg u n2=q.num)(h4:m2=q.den):cmpQ p q=if u then -cmpN (n1*m2) (n2*m1) else cmpN (n1*m2) (n2*m1):=by
 have e:∀x y:Nat,(sg u x<sg u y↔if u then y<x else x<y):=by
  intro x y;unfold sg;cases u<;>simp<;>omega
 have l1:p<q↔sg u (n1*m2)<sg u (n2*m1):=by rw[Rat.lt_iff,ZfN,ZfN,h1,h2,h3,h4]
 have l2:q<p↔sg u (n2*m1)<sg u (n1*m2):=by rw[Rat.lt_iff,ZfN,ZfN,h1,h2,h3,h4]
 rw[e]at l1 l2;unfold cmpQ cmpN;generalize n1*m2=x at*;generalize n2*m1=y at*
 cases u with
 |true=>
  simp only[if_true]at l1 l2⊢;by_cases a:y<x
  .rw[if_pos (l1.2 a),if_neg ω,if_pos a]
  .rw[if_neg (fun h=>a (l1.1 h))];by_cases b:x<y
   .rw[if_pos (l2.2 b),if_pos b];rfl
   .rw[if_neg (fun h=>b (l2.1 h)),if_neg b,if_neg a];rfl
 |false=>
  simp only[Bool.false_eq_true,if_false]at l1 l2⊢;by_cases a:x<y
  .rw[if_pos (l1.2 a),if_pos a]
  .rw[if_neg (fun h=>a (l1.1 h)),if_neg a];by_cases b:y<x
   .rw[if_pos (l2.2 b),if_pos b]
   .rw[if_neg (fun h=>b (l2.1 h)),if_neg b]
theorem Zno(x y:Nat):-1<=cmpN x y/\cmpN x y<=1:=by
 unfold cmpN;split
 .omega
 .split<;>omega
theorem Zc7(s:Bool)(a d:ByteArray)(t:Bool)(c e:ByteArray)(w:World)(ha:a.size<=4398046511104)(hd:d.size<=4398046511104)(hc:c.size<=4398046511104)(he:e.size<=4398046511104)(hT:Tab w):
  Calls Tryz.prog 50 #[.agg #[.bool s,.string a,.string d],.agg #[.bool t,.string c,.string e]] w fun x w'=>x= .returned (.int .i64 (cmpQ (qv s a d) (qv t c e)))/\Below w.heap.size w w':=by
 have z1:=Zfv s a d;have z2:=Zfv t c e;obtain⟨p,hp⟩:∃p,qv s a d=p:=⟨_,rfl⟩;obtain⟨q,hq⟩:∃q,qv t c e=q:=⟨_,rfl⟩;rw[hp]at z1⊢;rw[hq]at z2⊢;have HP:=Lib.hid hp;have HQ:=Lib.hid hq;clear hp hq
 go_enter Tryz.func50,Tryz.ntmps50
 go_upto_region 1 with fail
 have hH:=Held.start2 w 23 23 [.bool s,.string a,.string d] [.bool t,.string c,.string e];obtain⟨W,hW⟩:∃W,W=((w.alloc (.cells #[.bool s,.string a,.string d] 23)).alloc (.cells #[.bool t,.string c,.string e] 23)):=⟨_,rfl⟩;rw[<-hW]at hH⊢;clear hW
 go_cut [2,3] (fun s2 s3 wx=>s2= .pointer (some ⟨w.heap.size,0,none⟩)/\s3= .pointer (some ⟨w.heap.size+1,0,none⟩)/\∃u1 a1 d1 u2 a2 d2,Is p u1 a1 d1/\Is q u2 a2 d2/\Held w [(23, [.bool u1,.string a1,.string d1]),(23, [.bool u2,.string a2,.string d2])] wx)
 case first=>
  have hH0:=hH.drew;obtain⟨p0,p1,p2,_,_,_⟩:=row3 (hH0.row0 rfl);obtain⟨q0,q1,q2,_,_,_⟩:=row3 (hH0.row 1 rfl);have hT0:=hH0.tab hT;have ha':a.size<=17592186044416:=ω;have hd':d.size<=17592186044416:=ω;have hc':c.size<=17592186044416:=ω;have he':e.size<=17592186044416:=ω
  go_region_with (first
   |(go_at_call_of 91 (Value.string a);refine(Zak s a d _ ha' hd' ?_).mono ?_;(first|exact hTb|exact hT0);rintro _ wa ⟨ua,ca,fa,rfl,ia,hba⟩;rw[HP.out]at ia;(first|have hHa:=hHb.call hba|have hHa:=hH0.call hba);(have hTa:=hHa.tab hT);(obtain⟨p0,p1,p2,_,_,_⟩:=row3 (hHa.row0 rfl));(obtain⟨q0,q1,q2,_,_,_⟩:=row3 (hHa.row 1 rfl)))
   |(go_at_call_of 91 (Value.string c);refine(Zak t c e _ hc' he' ?_).mono ?_;(first|exact hTa|exact hT0);rintro _ wb ⟨ub,cb,fb,rfl,ib,hbb⟩;rw[HQ.out]at ib;(first|have hHb:=hHa.call hbb|have hHb:=hH0.call hbb);(have hTb:=hHb.tab hT);(obtain⟨p0,p1,p2,_,_,_⟩:=row3 (hHb.row0 rfl));(obtain⟨q0,q1,q2,_,_,_⟩:=row3 (hHb.row 1 rfl))))
  all_goals
   go_wp2_with fail
   go_meet
   first
    |exact⟨rfl,rfl,_,_,_,_,_,_,ia,ib,(hHb.put3_0 rfl _ _ _).put3 1 rfl _ _ _⟩
    |exact⟨rfl,rfl,_,_,_,_,_,_,ia,ib,(hHa.put3_0 rfl _ _ _).put3 1 rfl _ _ _⟩
 case rest=>
  obtain⟨rfl,rfl,u1,a1,d1,u2,a2,d2,i1,i2,hH⟩:=hcut;have s1:=i1.sz;have s2:=i2.sz;obtain⟨n1,m1,rfl,rfl,hn1,hm1,hm1p,hx1⟩:=i1.parts;obtain⟨n2,m2,rfl,rfl,hn2,hm2,hm2p,hx2⟩:=i2.parts;have sn1:(enc n1).size<=4398046511105:=ω;have sm1:(enc m1).size<=4398046511105:=ω;have sn2:(enc n2).size<=4398046511105:=ω;have sm2:(enc m2).size<=4398046511105:=ω;have I1:=Lib.hid i1;have I2:=Lib.hid i2;have H1:=Lib.hid (And.intro hn1 (And.intro hm1 hm1p));have H2:=Lib.hid (And.intro hn2 (And.intro hm2 hm2p));clear i1 i2 z1 z2 s1 s2 hn1 hm1 hm1p hn2 hm2 hm2p hx1 hx2 ha hd hc he;obtain⟨p0,p1,p2,_,_,_⟩:=row3 (hH.row0 rfl);obtain⟨q0,q1,q2,_,_,_⟩:=row3 (hH.row 1 rfl);have P0:∀w',Held w [(23, [.bool u1,.string (enc n1),.string (enc m1)]),(23, [.bool u2,.string (enc n2),.string (enc m2)])] w'->
    Held w [(23, [.bool u1,.string (enc n1),.string (enc m1)]),(23, [.bool u2,.string (enc n2),.string (enc m2)])] w'/\w'.cell? ⟨w.heap.size,0,none⟩=some (.bool u1)/\w'.cell? ⟨w.heap.size,1,none⟩=some (.string (enc n1))/\w'.cell? ⟨w.heap.size,2,none⟩=some (.string (enc m1))/\
    w'.cell? ⟨w.heap.size+1,0,none⟩=some (.bool u2)/\w'.cell? ⟨w.heap.size+1,1,none⟩=some (.string (enc n2))/\w'.cell? ⟨w.heap.size+1,2,none⟩=some (.string (enc m2)):=fun w' h=>by
   obtain⟨a0,a1,a2,_⟩:=row3 (h.row0 rfl);obtain⟨b0,b1,b2,_⟩:=row3 (h.row 1 rfl);exact⟨h,a0,a1,a2,b0,b1,b2⟩
  by_cases hu:u1=u2
  .subst hu;have HC:=Lib.hid (Zrv H1.out.1 H1.out.2.1 H2.out.1 H2.out.2.1);have hsz:(enc (n1*m2)).size<=8796093022210:=Z9 sn1 sm2;have hsz2:(enc (n2*m1)).size<=8796093022210:=Z9 sn2 sm1;obtain⟨k,hk⟩:∃k,cmpN (n1*m2) (n2*m1)=k:=⟨_,rfl⟩;have hkr:=Zno (n1*m2) (n2*m1);rw[hk]at hkr;have HK:=Lib.hid hk;obtain⟨hk1,hk2⟩:=hkr;clear hk;go_wp2_with fail;clear p0 p1 p2 q0 q1 q2
   go_region_held3 (fun w'=>Held w [(23, [.bool u1,.string (enc n1),.string (enc m1)]),(23, [.bool u1,.string (enc n2),.string (enc m2)])] w'/\w'.cell? ⟨w.heap.size,0,none⟩=some (.bool u1)/\w'.cell? ⟨w.heap.size,1,none⟩=some (.string (enc n1))/\w'.cell? ⟨w.heap.size,2,none⟩=some (.string (enc m1))/\
     w'.cell? ⟨w.heap.size+1,0,none⟩=some (.bool u1)/\w'.cell? ⟨w.heap.size+1,1,none⟩=some (.string (enc n2))/\w'.cell? ⟨w.heap.size+1,2,none⟩=some (.string (enc m2)))
    (first|exact P0 _ hH.drew|exact P0 _ hHa|exact P0 _ hHb)
    (first
     |(go_at_call_of 93 (Value.string (enc n1));refine(ZbA (enc n1) (enc m2) _ ω ω).mono ?_;rintro _ wa ⟨rfl,hba⟩;rw[Ze,Ze];(first|have hHa:=hHb.call hba|have hHa:=hH.drew.call hba))
     |(go_at_call_of 93 (Value.string (enc n2));refine(ZbA (enc n2) (enc m1) _ ω ω).mono ?_;rintro _ wb ⟨rfl,hbb⟩;rw[Ze,Ze];(first|have hHb:=hHa.call hbb|have hHb:=hH.drew.call hbb))
     |(go_at_call 92;refine(ZdV _ _ _).mono ?_;rintro _ wc ⟨rfl,rfl⟩;rw[Ze,Ze,HK.out]))
   obtain⟨p0,p1,p2,_,_,_⟩:=row3 (hHb.row0 rfl);clear hHa hH P0
   cases u1 with
   |true=>
    have HC2:=Lib.hid (show cmpQ p q=-k by rw[HC.out,if_pos rfl,HK.out]);go_wp2_with fail
    go_ret
    exact⟨ZaD HC2.out.symm,hHb.1⟩
   |false=>
    have HC2:=Lib.hid (show cmpQ p q=k by rw[HC.out,if_neg ωd,HK.out]);go_wp2_with fail
    go_ret
    exact⟨ZaD HC2.out.symm,hHb.1⟩
  .have HC:=Lib.hid (Zru I1.out.1 I2.out.1 hu);have hut:(u1==u2)=false:=by simpa using hu
   have Hu:=Lib.hid hu
   cases u1 with
   |true=>
    obtain rfl:u2=false:=by cases u2 with|true=>exact absurd rfl hu|false=>rfl
    clear hu;go_wp2_with fail
    go_ret
    exact⟨ZaD HC.out.symm,hH.1⟩
   |false=>
    obtain rfl:u2=true:=by cases u2 with|true=>rfl|false=>exact absurd rfl hu
    clear hu;go_wp2_with fail
    go_ret
    exact⟨ZaD HC.out.symm,hH.1⟩
theorem Zy0{p:Rat}{u:Bool}{n m:Nat}(h:Is p u (enc n) (enc m)):Is (-p) (if n=0 then false else !u) (enc n) (enc m):=by
 obtain⟨h1,h2,h3⟩:=h;have hn:n=p.num.natAbs:=Zfe h2;refine⟨?_,?_,?_⟩
 .rw[Rat.neg_num];by_cases h0:n=0
  .rw[if_pos h0];symm;apply decide_eq_false;omega
  .rw[if_neg h0,h1];by_cases hp:p.num<0
   .rw[decide_eq_true hp,decide_eq_false ω];rfl
   .rw[decide_eq_false hp,decide_eq_true ω];rfl
 .rw[Rat.neg_num,Int.natAbs_neg,<-hn]
 .rw[Rat.neg_den];exact h3
theorem Zk2(s:Bool)(a d:ByteArray)(w:World)(ha:a.size<=17592186044416)(hd:d.size<=17592186044416)(hT:Tab w):
  Calls Tryz.prog 95 #[.agg #[.bool s,.string a,.string d]] w fun x w'=>Gives (-qv s a d) w x w':=by
 have hH:=Held.start2 w 23 23 [.bool s,.string a,.string d] [.bool false,.string ⟨#[]⟩,.string ⟨#[]⟩]
 go_enter Tryz.func95,Tryz.ntmps95
 go_wp2_with fail;refine(Zak s a d _ ha hd (hH.tab hT)).mono ?_;rintro _ w1 ⟨u,c,f,rfl,i1,hb1⟩;have hH1:=hH.call hb1;obtain⟨p0,p1,p2,f0,f1,f2⟩:=row3 (hH1.row0 rfl);obtain⟨r0,r1,r2,g0,g1,g2⟩:=row3 (hH1.row 1 rfl);obtain⟨n,m,rfl,rfl,hn,hm,hmp,hx⟩:=i1.parts;have hH2:=hH1.put3_0 rfl (.bool u) (.string (enc n)) (.string (enc m));have HI:=Lib.hid (Zy0 i1);clear hH hn hm hmp hx i1 hb1;by_cases h0:n=0
 .subst h0;have HI2:=Lib.hid (show Is (-qv s a d) false (enc 0) (enc m) by simpa using HI.out);rw[ZV]at hH2 HI2⊢;have hH3:=(hH2.set 0 0 rfl (.bool false)).put3 1 rfl (.bool false) (.string ⟨#[]⟩) (.string (enc m))
  cases u with
  |true=>
   go_wp2_with fail;exact bodyPost_ret (Zv rfl _ rfl (hH3.row 1 rfl)) rfl ⟨_,_,_,rfl,HI2.out,hH3.1⟩
  |false=>
   go_wp2_with fail;exact bodyPost_ret (Zv rfl _ rfl (hH3.row 1 rfl)) rfl ⟨_,_,_,rfl,HI2.out,hH3.1⟩
 .have HI2:=Lib.hid (show Is (-qv s a d) (!u) (enc n) (enc m) by have:=HI.out;rwa[if_neg h0]at this);have hne:=enc_ne (show 0<n by omega);have hH3:=(hH2.set 0 0 rfl (.bool (!u))).put3 1 rfl (.bool (!u)) (.string (enc n)) (.string (enc m));clear h0
  cases u with
  |true=>
   go_wp2_with fail;exact bodyPost_ret (Zv rfl _ rfl (hH3.row 1 rfl)) rfl ⟨_,_,_,rfl,HI2.out,hH3.1⟩
  |false=>
   go_wp2_with fail;exact bodyPost_ret (Zv rfl _ rfl (hH3.row 1 rfl)) rfl ⟨_,_,_,rfl,HI2.out,hH3.1⟩
theorem Zim(n:Int):mkRat n 1=(n:Rat):=by
 rw[<-Rat.mkRat_self (n:Rat),Rat.num_intCast,Rat.den_intCast]
theorem ZjA(n:Int)(w:World)(h1:-9223372036854775808<=n)(h2:n<=9223372036854775807)(hT:Tab w):
  Calls Tryz.prog 57 #[.int .i64 n] w fun x w'=>Gives (n:Rat) w x w':=by
 have hH:=Held.start1 w 23 [.bool false,.string ⟨#[]⟩,.string ⟨#[]⟩];have one:∀(s:Bool)(k:Nat)(w:World)(hk:k<=9223372036854775808)(hT:Tab w),Calls Tryz.prog 94 #[.bool s,.string (enc k),.string ⟨#[1]⟩] w fun e w'=>Gives (mkRat (sg s k) 1) w e w':=by
  intro s k w hk hT;have hks:(enc k).size<=8:=Zh.2 (Nat.lt_of_le_of_lt hk ωd);have:=Zcs s k 1 w ω (Nat.le_trans (Zh.2 (by decide:1<256^1)) ω) ω hT
  rwa[ZbU]at this
 by_cases h0:0<=n
 .obtain⟨k,rfl⟩:∃k:Nat,n=k:=⟨n.toNat,ω⟩;have HQ:=Lib.hid (show mkRat (sg false k) 1=((k:Int):Rat) from Zim k)
  go_enter Tryz.func57,Tryz.ntmps57
  go_wp2_with fail;refine(Zr4 k _ h2).mono ?_;rintro _ w1 ⟨rfl,hb1⟩;rw[Int.toNat_natCast];have hH1:=hH.call hb1;go_wp2_with fail;refine(one false k w1 ω (hH1.tab hT)).mono ?_;rintro _ w2 ⟨u,c,f,rfl,i2,hb2⟩;rw[HQ.out]at i2;have hH2:=hH1.call hb2;obtain⟨r0,r1,r2,g0,g1,g2⟩:=row3 (hH2.row0 rfl);go_wp2_with fail;have hH3:=hH2.put3_0 rfl (.bool u) (.string c) (.string f);exact bodyPost_ret (Zv rfl _ rfl (hH3.row0 rfl)) rfl ⟨_,_,_,rfl,i2,hH3.1⟩
 .obtain⟨k,hk⟩:∃k:Nat,-(n+1)=(k:Int):=⟨(-(n+1)).toNat,ω⟩;have hkl:k<=9223372036854775807:=ω;have HQ:=Lib.hid (show mkRat (sg true (k+1)) 1=(n:Rat) by rw[<-Zim n];congr 1;unfold sg;simp;omega)
  go_enter Tryz.func57,Tryz.ntmps57
  go_wp2_with fail;refine(Zr4 k _ ω).mono ?_;rintro _ w1 ⟨rfl,hb1⟩;rw[Int.toNat_natCast];have hH1:=hH.call hb1;have hks:(enc k).size<=8:=Zh.2 (Nat.lt_of_le_of_lt hkl ωd);go_wp2_with fail;refine(natD.Add_any (enc k) ⟨#[1]⟩ w1 ω ωd).mono ?_;rintro _ w2 ⟨rfl,hb2⟩;rw[Ze,ZfX];have hH2:=hH1.call hb2;go_wp2_with fail;refine(one true (k+1) w2 ω (hH2.tab hT)).mono ?_;rintro _ w3 ⟨u,c,f,rfl,i3,hb3⟩;rw[HQ.out]at i3;have hH3:=hH2.call hb3;obtain⟨r0,r1,r2,g0,g1,g2⟩:=row3 (hH3.row0 rfl);go_wp2_with fail;have hH4:=hH3.put3_0 rfl (.bool u) (.string c) (.string f);exact bodyPost_ret (Zv rfl _ rfl (hH4.row0 rfl)) rfl ⟨_,_,_,rfl,i3,hH4.1⟩
end Go.Proofs.YtnhfpbcbhnfeaaaGreatDoor.ratD
namespace Go.Proofs.YtnhfpbcbhnfeaaaGreatDoor.vars
open Go.RowKit num mem seg held
def Vars(w0:World)(ls:List (Nat×Nat×List Value))(w:World):Prop:=
 Below w0.heap.size w0 w/\(∀(i b T:Nat)(l:List Value),ls[i]? =some (b,T,l)->w0.heap.size<=b/\Row w b T l)/\
  ∀(i j:Nat)(x y:Nat×Nat×List Value),ls[i]? =some x->ls[j]? =some y->x.1=y.1->i=j
section
variable{w0 w w':World}{ls:List (Nat×Nat×List Value)}{b T:Nat}{l:List Value}
theorem Vars.nil(w:World):Vars w [] w:=⟨Below.refl _ _,fun i b T l h=>by simp at h,fun i j x y h=>by simp at h⟩
theorem Vars.size(h:Vars w0 ls w):w0.heap.size<=w.heap.size:=h.1.size
theorem Vars.row(h:Vars w0 ls w)(i:Nat)(hi:ls[i]? =some (b,T,l)):Row w b T l:=(h.2.1 i b T l hi).2
theorem Vars.push(h:Vars w0 ls w)(T:Nat)(l:List Value):Vars w0 (ls++[(w.heap.size,T,l)]) (w.alloc (.cells l.toArray T)):=by
 have old:∀(i:Nat)(x:Nat×Nat×List Value),ls[i]? =some x->x.1<w.heap.size:=fun i x hx=>(h.2.1 i x.1 x.2.1 x.2.2 hx).2.lt;refine⟨h.1.alloc h.1.size _,?_,?_⟩
 .intro i b' T' l' hi;by_cases hlt:i<ls.length
  .rw[getElem?_append_left hlt]at hi;exact⟨(h.2.1 i b' T' l' hi).1,(h.2.1 i b' T' l' hi).2.alloc _⟩
  .have hi':i=ls.length:=by
    have:=(gS hi).1;simp at this;omega
   subst hi';simp at hi;obtain⟨rfl,rfl,rfl⟩:=hi;exact⟨h.1.size,Row.alloc_new w T l⟩
 .intro i j x y hi hj he;by_cases h1:i<ls.length<;>by_cases h2:j<ls.length
  .rw[getElem?_append_left h1]at hi;rw[getElem?_append_left h2]at hj;exact h.2.2 i j x y hi hj he
  .have hj':j=ls.length:=by have:=(gS hj).1;simp at this;omega
   subst hj';rw[getElem?_append_left h1]at hi;simp at hj;have:=old i x hi;rw[he,<-hj]at this;exact absurd this (Nat.lt_irrefl _)
  .have hi':i=ls.length:=by have:=(gS hi).1;simp at this;omega
   subst hi';rw[getElem?_append_left h2]at hj;simp at hi;have:=old j y hj;rw[<-he,<-hi]at this;exact absurd this (Nat.lt_irrefl _)
  .have h3:=(gS hi).1;have h4:=(gS hj).1;simp at h3 h4;omega
theorem Vars.call(h:Vars w0 ls w)(hb:Below w.heap.size w w'):Vars w0 ls w':=
 ⟨h.1.trans (hb.mono h.1.size),fun i b T l hi=>⟨(h.2.1 i b T l hi).1,(h.2.1 i b T l hi).2.below hb (h.2.1 i b T l hi).2.lt⟩,h.2.2⟩
theorem Vars.drew(h:Vars w0 ls w):Vars w0 ls w.drew:=⟨h.1.drew,h.2.1,h.2.2⟩
theorem Vars.tab(h:Vars w0 ls w)(hT:Tab w0):Tab w:=hT.below h.1 (Nat.le_refl _)
theorem Vars.lead{ms:List (Nat×Nat×List Value)}(h:Vars w0 (ls++ms) w):Vars w0 ls w:=by
 have key:∀(i:Nat)(x:Nat×Nat×List Value),ls[i]? =some x->(ls++ms)[i]? =some x:=fun i x hi=>by
  rw[getElem?_append_left (gS hi).1];exact hi
 exact⟨h.1,fun i b T l hi=>h.2.1 i b T l (key _ _ hi),fun i j x y hi hj=>h.2.2 i j x y (key _ _ hi) (key _ _ hj)⟩
theorem Vars.set(h:Vars w0 ls w)(i j:Nat)(hi:ls[i]? =some (b,T,l))(v:Value):Vars w0 (ls.set i (b,T,l.set j v)) (w.setCell ⟨b,j,none⟩ v):=by
 have hlt:=(gS hi).1;have key:∀(k:Nat)(x:Nat×Nat×List Value),(ls.set i (b,T,l.set j v))[k]? =some x->∃y,ls[k]? =some y/\y.1=x.1:=by
  intro k x hk;by_cases e:i=k
  .subst e;rw[getElem?_set_self hlt]at hk;exact⟨_,hi,by rw[<-sI hk]⟩
  .rw[List.getElem?_set_ne e]at hk;exact⟨x,hk,rfl⟩
 refine⟨h.1.setCell (h.2.1 i b T l hi).1 v,?_,?_⟩
 .intro k b' T' l' hk;by_cases e:i=k
  .subst e;rw[getElem?_set_self hlt]at hk;have:=sI hk;obtain⟨rfl,h2⟩:=Prod.mk.inj this;obtain⟨rfl,rfl⟩:=Prod.mk.inj h2;exact⟨(h.2.1 i b T l hi).1,(h.2.1 i b T l hi).2.set j v⟩
  .rw[List.getElem?_set_ne e]at hk;refine⟨(h.2.1 k b' T' l' hk).1,(h.2.1 k b' T' l' hk).2.set_ne ?_ v⟩;show b≠b';intro hbb;exact e (h.2.2 i k _ _ hi hk hbb)
 .intro k m x y hk hm he;obtain⟨x',h1,e1⟩:=key k x hk;obtain⟨y',h2,e2⟩:=key m y hm;exact h.2.2 k m x' y' h1 h2 (by rw[e1,e2,he])
theorem Vars.put3(h:Vars w0 ls w)(i:Nat){x y z:Value}(hi:ls[i]? =some (b,T, [x,y,z]))(x' y' z':Value):
  Vars w0 (ls.set i (b,T, [x',y',z'])) (((w.setCell ⟨b,0,none⟩ x').setCell ⟨b,1,none⟩ y').setCell ⟨b,2,none⟩ z'):=by
 have hlt:=(gS hi).1;have h1:=h.set i 0 hi x';have h2:=h1.set i 1 (getElem?_set_self hlt) y';have h3:=h2.set i 2 (getElem?_set_self (by simpa using hlt)) z';rw[set_set,set_set]at h3;exact h3
end
section
variable{w:World}{b T:Nat}{x y z t u v:Value}
end
theorem vars1(w:World)(T:Nat)(l:List Value):Vars w [(w.heap.size,T,l)] (w.alloc (.cells l.toArray T)):=(Vars.nil w).push T l
theorem vars2(w:World)(T T':Nat)(l l':List Value):Vars w [(w.heap.size,T,l),(w.heap.size+1,T',l')] ((w.alloc (.cells l.toArray T)).alloc (.cells l'.toArray T')):=by
 have:=(vars1 w T l).push T' l';simpa using this
theorem vars3(w:World)(T T' T'':Nat)(l l' l'':List Value):Vars w [(w.heap.size,T,l),(w.heap.size+1,T',l'),(w.heap.size+1+1,T'',l'')] (((w.alloc (.cells l.toArray T)).alloc (.cells l'.toArray T')).alloc (.cells l''.toArray T'')):=by
 have:=(vars2 w T T' l l').push T'' l'';simpa using this
end Go.Proofs.YtnhfpbcbhnfeaaaGreatDoor.vars
namespace Go.Proofs.YtnhfpbcbhnfeaaaGreatDoor.ratE
open Go.RowKit num mem seg q ratA held ratB ratC ratD vars
theorem ZsS(s:Bool)(a d:ByteArray)(t:Bool)(c e:ByteArray)(w:World)(ha:a.size<=4398046511104)(hd:d.size<=4398046511104)(hc:c.size<=4398046511104)(he:e.size<=4398046511104)(hT:Tab w):
  Calls Tryz.prog 54 #[.agg #[.bool s,.string a,.string d],.agg #[.bool t,.string c,.string e]] w fun x w'=>Gives (qv s a d-qv t c e) w x w':=by
 have V0:=vars3 w 23 23 23 [.bool s,.string a,.string d] [.bool t,.string c,.string e] [.bool false,.string ⟨#[]⟩,.string ⟨#[]⟩];have zq:=Zfv t c e
 go_enter Tryz.func54,Tryz.ntmps54
 go_upto_region 1 with fail
 obtain⟨W,hW⟩:∃W,W=(((w.alloc (.cells #[.bool s,.string a,.string d] 23)).alloc (.cells #[.bool t,.string c,.string e] 23)).alloc (.cells #[.bool false,.string ⟨#[]⟩,.string ⟨#[]⟩] 23)):=⟨_,rfl⟩;rw[<-hW]at V0⊢;clear hW;have P0:∀w',Vars w [(w.heap.size,23, [.bool s,.string a,.string d]),(w.heap.size+1,23, [.bool t,.string c,.string e])] w'->Vars w [(w.heap.size,23, [.bool s,.string a,.string d]),(w.heap.size+1,23, [.bool t,.string c,.string e])] w'/\w'.cell? ⟨w.heap.size,0,none⟩=some (.bool s)/\w'.cell? ⟨w.heap.size,1,none⟩=some (.string a)/\w'.cell? ⟨w.heap.size,2,none⟩=some (.string d)/\w'.cell? ⟨w.heap.size+1,0,none⟩=some (.bool t)/\w'.cell? ⟨w.heap.size+1,1,none⟩=some (.string c)/\w'.cell? ⟨w.heap.size+1,2,none⟩=some (.string e):=fun w' h=>by
  obtain⟨c00,c01,c02,_⟩:=row3 (h.row 0 rfl);obtain⟨c10,c11,c12,_⟩:=row3 (h.row 1 rfl);exact⟨h,c00,c01,c02,c10,c11,c12⟩
 go_region_held3 (fun w'=>Vars w [(w.heap.size,23, [.bool s,.string a,.string d]),(w.heap.size+1,23, [.bool t,.string c,.string e])] w'/\w'.cell? ⟨w.heap.size,0,none⟩=some (.bool s)/\w'.cell? ⟨w.heap.size,1,none⟩=some (.string a)/\w'.cell? ⟨w.heap.size,2,none⟩=some (.string d)/\w'.cell? ⟨w.heap.size+1,0,none⟩=some (.bool t)/\w'.cell? ⟨w.heap.size+1,1,none⟩=some (.string c)/\w'.cell? ⟨w.heap.size+1,2,none⟩=some (.string e))
  (first|exact P0 _ (V2.put3 2 rfl _ _ _).lead|exact P0 _ V2.lead|exact P0 _ V1.lead|exact P0 _ V0.drew.lead)
  (first
   |(go_at_call 67;have _g:=i1;refine(Zk4 _ _ _ _ _ _ _ ω ω ω ω (V1.tab hT)).mono ?_;rintro _ w2 ⟨u2,c2,f2,rfl,i2,hb2⟩;rw[i1.val,<-Rat.sub_eq_add_neg]at i2;have V2:=V1.call hb2;obtain⟨r0,r1,r2,rf0,rf1,rf2⟩:=row3 (V2.row 2 rfl))
   |(go_at_call 95;refine(Zk2 _ _ _ _ ω ω (V0.drew.tab hT)).mono ?_;rintro _ w1 ⟨u1,c1,f1,rfl,i1,hb1⟩;have V1:=V0.drew.call hb1;obtain⟨s1a,s1b⟩:=i1.sz;rw[ZbY]at s1a s1b))
 go_wp2_with fail;have V3:=V2.put3 2 rfl (.bool u2) (.string c2) (.string f2);exact bodyPost_ret (Zv rfl _ rfl (V3.row 2 rfl)) rfl ⟨_,_,_,rfl,i2,V3.1⟩
theorem ZsV(s:Bool)(a d:ByteArray)(t:Bool)(c e:ByteArray)(w:World)(ha:a.size<=4398046511104)(hd:d.size<=4398046511104)(hc:c.size<=4398046511104)(he:e.size<=4398046511104)(hT:Tab w):
  Calls Tryz.prog 101 #[.agg #[.bool s,.string a,.string d],.agg #[.bool t,.string c,.string e]] w fun x w'=>Gives (if cmpQ (qv s a d) (qv t c e)<=0 then qv s a d else qv t c e) w x w':=by
 have V0:=vars3 w 23 23 23 [.bool s,.string a,.string d] [.bool t,.string c,.string e] [.bool false,.string ⟨#[]⟩,.string ⟨#[]⟩];obtain⟨k,hk⟩:∃k,cmpQ (qv s a d) (qv t c e)=k:=⟨_,rfl⟩;have hkr:-1<=k/\k<=1:=by
  rw[<-hk];unfold cmpQ;split
  .omega
  .split<;>omega
 rw[hk];have HK:=Lib.hid hk;obtain⟨hk1,hk2⟩:=hkr;clear hk;by_cases hy:k<=0
 .rw[if_pos hy]
  go_enter Tryz.func101,Tryz.ntmps101
  go_wp2_with fail;refine(Zc7 _ _ _ _ _ _ _ ha hd hc he (V0.tab hT)).mono ?_;rintro _ w1 ⟨rfl,hb1⟩;rw[HK.out];have V1:=V0.call hb1;obtain⟨p0,p1,p2,pf0,pf1,pf2⟩:=row3 (V1.row 0 rfl);go_wp2_with fail;refine(Zak _ _ _ _ ω ω (V1.tab hT)).mono ?_;rintro _ w2 ⟨u2,c2,f2,rfl,i2,hb2⟩;have V2:=V1.call hb2;obtain⟨r0,r1,r2,rf0,rf1,rf2⟩:=row3 (V2.row 2 rfl);go_wp2_with fail;have V3:=V2.put3 2 rfl (.bool u2) (.string c2) (.string f2);exact bodyPost_ret (Zv rfl _ rfl (V3.row 2 rfl)) rfl ⟨_,_,_,rfl,i2,V3.1⟩
 .rw[if_neg hy]
  go_enter Tryz.func101,Tryz.ntmps101
  go_wp2_with fail;refine(Zc7 _ _ _ _ _ _ _ ha hd hc he (V0.tab hT)).mono ?_;rintro _ w1 ⟨rfl,hb1⟩;rw[HK.out];have V1:=V0.call hb1;obtain⟨p0,p1,p2,pf0,pf1,pf2⟩:=row3 (V1.row 1 rfl);go_wp2_with fail;refine(Zak _ _ _ _ ω ω (V1.tab hT)).mono ?_;rintro _ w2 ⟨u2,c2,f2,rfl,i2,hb2⟩;have V2:=V1.call hb2;obtain⟨r0,r1,r2,rf0,rf1,rf2⟩:=row3 (V2.row 2 rfl);go_wp2_with fail;have V3:=V2.put3 2 rfl (.bool u2) (.string c2) (.string f2);exact bodyPost_ret (Zv rfl _ rfl (V3.row 2 rfl)) rfl ⟨_,_,_,rfl,i2,V3.1⟩
theorem ZsW(s:Bool)(a d:ByteArray)(t:Bool)(c e:ByteArray)(w:World)(ha:a.size<=4398046511104)(hd:d.size<=4398046511104)(hc:c.size<=4398046511104)(he:e.size<=4398046511104)(hT:Tab w):
  Calls Tryz.prog 102 #[.agg #[.bool s,.string a,.string d],.agg #[.bool t,.string c,.string e]] w fun x w'=>Gives (if 0<=cmpQ (qv s a d) (qv t c e) then qv s a d else qv t c e) w x w':=by
 have V0:=vars3 w 23 23 23 [.bool s,.string a,.string d] [.bool t,.string c,.string e] [.bool false,.string ⟨#[]⟩,.string ⟨#[]⟩];obtain⟨k,hk⟩:∃k,cmpQ (qv s a d) (qv t c e)=k:=⟨_,rfl⟩;have hkr:-1<=k/\k<=1:=by
  rw[<-hk];unfold cmpQ;split
  .omega
  .split<;>omega
 rw[hk];have HK:=Lib.hid hk;obtain⟨hk1,hk2⟩:=hkr;clear hk;by_cases hy:0<=k
 .rw[if_pos hy]
  go_enter Tryz.func102,Tryz.ntmps102
  go_wp2_with fail;refine(Zc7 _ _ _ _ _ _ _ ha hd hc he (V0.tab hT)).mono ?_;rintro _ w1 ⟨rfl,hb1⟩;rw[HK.out];have V1:=V0.call hb1;obtain⟨p0,p1,p2,pf0,pf1,pf2⟩:=row3 (V1.row 0 rfl);go_wp2_with fail;refine(Zak _ _ _ _ ω ω (V1.tab hT)).mono ?_;rintro _ w2 ⟨u2,c2,f2,rfl,i2,hb2⟩;have V2:=V1.call hb2;obtain⟨r0,r1,r2,rf0,rf1,rf2⟩:=row3 (V2.row 2 rfl);go_wp2_with fail;have V3:=V2.put3 2 rfl (.bool u2) (.string c2) (.string f2);exact bodyPost_ret (Zv rfl _ rfl (V3.row 2 rfl)) rfl ⟨_,_,_,rfl,i2,V3.1⟩
 .rw[if_neg hy]
  go_enter Tryz.func102,Tryz.ntmps102
  go_wp2_with fail;refine(Zc7 _ _ _ _ _ _ _ ha hd hc he (V0.tab hT)).mono ?_;rintro _ w1 ⟨rfl,hb1⟩;rw[HK.out];have V1:=V0.call hb1;obtain⟨p0,p1,p2,pf0,pf1,pf2⟩:=row3 (V1.row 1 rfl);go_wp2_with fail;refine(Zak _ _ _ _ ω ω (V1.tab hT)).mono ?_;rintro _ w2 ⟨u2,c2,f2,rfl,i2,hb2⟩;have V2:=V1.call hb2;obtain⟨r0,r1,r2,rf0,rf1,rf2⟩:=row3 (V2.row 2 rfl);go_wp2_with fail;have V3:=V2.put3 2 rfl (.bool u2) (.string c2) (.string f2);exact bodyPost_ret (Zv rfl _ rfl (V3.row 2 rfl)) rfl ⟨_,_,_,rfl,i2,V3.1⟩
theorem Zal{n:Int}(h1:-9223372036854775808<=n)(h2:n<=9223372036854775807):qs (n:Rat)<=8:=
 Zyg (Nat.lt_of_le_of_lt (show n.natAbs<=9223372036854775808 by omega) ωd) ω
theorem Zpg(n m:Int)(w:World)(h1:-9223372036854775808<=n)(h2:n<=9223372036854775807)(h3:-9223372036854775808<=m)(h4:m<=9223372036854775807)(hT:Tab w):
  Calls Tryz.prog 52 #[.int .i64 n,.int .i64 m] w fun x w'=>Quot (n:Rat) (m:Rat) w x w':=by
 have V0:=vars1 w 23 [.bool false,.string ⟨#[]⟩,.string ⟨#[]⟩];have hn:=Zal h1 h2;have hm:=Zal h3 h4
 go_enter Tryz.func52,Tryz.ntmps52
 go_wp2_with fail;refine(ZjA n _ h1 h2 (V0.tab hT)).mono ?_;rintro _ w1 ⟨u1,c1,f1,rfl,i1,hb1⟩;have V1:=V0.call hb1;obtain⟨s1a,s1b⟩:=i1.sz;go_wp2_with fail;refine(ZjA m _ h3 h4 (V1.tab hT)).mono ?_;rintro _ w2 ⟨u2,c2,f2,rfl,i2,hb2⟩;have V2:=V1.call hb2;obtain⟨s2a,s2b⟩:=i2.sz;go_wp2_with fail;refine(Zk3 _ _ _ _ _ _ _ ω ω ω ω (V2.tab hT)).mono ?_;rintro _ w3 ⟨u3,c3,f3,k,rfl,hq,hb3⟩;rw[i1.val,i2.val]at hq;have HQ:=Lib.hid hq;clear hq;have V3:=V2.call hb3;obtain⟨r0,r1,r2,rf0,rf1,rf2⟩:=row3 (V3.row 0 rfl);go_wp2_with fail;have V4:=V3.put3 0 rfl (.bool u3) (.string c3) (.string f3);exact bodyPost_ret (Zb8 rfl _ rfl rfl (V4.row 0 rfl)) rfl ⟨_,_,_,_,rfl,HQ.out,V4.1⟩
