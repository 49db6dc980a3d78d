/- Arguments opened: structs that hold lists, and lists of them: links, arms, keys, lists of lists. -/
import Derived.Test.YtnhfpbcbhnfeaaaGreatDoorQGrpW
import Derived.Test.YtnhfpbcbhnfeaaaGreatDoorQGrpA
set_option maxHeartbeats 1000000
set_option maxRecDepth 100000
open List (length_cons range getElem?_eq_getElem length_map map_nil)
namespace Go.Proofs.YtnhfpbcbhnfeaaaGreatDoor.argopen
open Go.ChangeShapes Go.WideShapes Go.ChangeAt Go.RowKit row seg eng
section
variable{H:Type}{enc:TypeId×Value->H}{w:World}{base:Nat}{sp:Nat->Bool}{held:Bool}{I:Nat->Prop}
def RelD{α:Type}(R:α->DataW H->Prop)(l:List α)(ds:List (DataW H)):Prop:=l.length=ds.length/\∀(i:Nat)(a:α)(d:DataW H),l[i]? =some a->ds[i]? =some d->R a d
def Cells(w:World)(I:Nat->Prop)(cs:List Value)(ds:List D):Prop:=cs.length=ds.length/\∀(j:Nat)(y:Value)(d:D),cs[j]? =some y->ds[j]? =some d->Den w I y d
theorem Cells.nil:Cells w I [] []:=⟨rfl,fun j y d h=>by simp at h⟩
theorem Cells.cons{cs:List Value}{ds:List D}{y:Value}{d:D}(h:Cells w I cs ds)(hy:Den w I y d):Cells w I (y::cs) (d::ds):=by
 refine⟨by rw[length_cons,length_cons,h.1],fun j y' d' h1 h2=>?_⟩
 cases j with
 |zero=>obtain rfl:=sI (show some y=some y' from h1);obtain rfl:=sI (show some d=some d' from h2);exact hy
 |succ j=>exact h.2 j y' d' (by simpa using h1) (by simpa using h2)
theorem Cells.app{cs cs':List Value}{ds ds':List D}(h:Cells w I cs ds)(h':Cells w I cs' ds'):Cells w I (cs++cs') (ds++ds'):=by
 refine⟨by simp[h.1,h'.1],fun j y d h1 h2=>?_⟩;by_cases hj:j<cs.length
 .rw[List.getElem?_append_left hj]at h1;rw[List.getElem?_append_left (by rw[<-h.1];exact hj)]at h2;exact h.2 j y d h1 h2
 .rw[List.getElem?_append_right ω]at h1;rw[List.getElem?_append_right (by rw[<-h.1];omega),<-h.1]at h2;exact h'.2 _ y d h1 h2
theorem Zcw(x:RV):Cells w I [.bool x.s,.string x.a,.string x.d] (eng.rd x):=((Cells.nil.cons (Den.v _ rfl)).cons (Den.v _ rfl)).cons (Den.v _ rfl)
theorem Zcn{α:Type}[Inhabited α]{R:α->DataW H->Prop}{t e:TypeId}{n:Nat}(cD:α->List D)(hn:0<n)(hlen:∀a,(cD a).length=n)
 (ht:Tryz.prog.underlying t=some (.slice e))(hce:Tryz.prog.cellsOf e=n)
 (hel:∀fuel cs x,DataW.trod enc Tryz.prog w base sp held fuel e cs=some x->∃a,R a x.1/\Cells w I cs (cD a))
 (hI:∀b,b<w.heap.size->I b){fuel:Nat}{cs:List Value}{x:DataW H×List MemPlace}(h:DataW.trod enc Tryz.prog w base sp held fuel t cs=some x):
  ∃(v:Value)(l:List α)(ds:List (DataW H)),cs= [v]/\Den w I v (.list (l.map cD))/\RelD R l ds/\((x.1= .nil/\ds= [])\/∃rest,x.1= .slice ds rest):=by
 rcases Go.Deep.open_slice ht h with ⟨rfl,rfl⟩|⟨a,len,cap,m,n',DD,Pl,rfl,hb,hlc,hcm,hm,rfl,hx⟩
 .exact⟨_, [], [],rfl,Den.nil none 0,⟨rfl,fun i a d h=>by simp at h⟩,.inl ⟨rfl,rfl⟩⟩
 .have hlm:len<=m:=by rw[hm];split<;>omega
  rw[hce]at hx;have hA:∀i,i<len->∃p:α×List Value,R p.1 (DD i)/\Cells w I p.2 (cD p.1)/\∀j,j<n->w.cell? ((a.add (i*n)).add j)=p.2[j]? :=by
   intro i hi;obtain⟨cs',g1,g2⟩:=hx i ω;obtain⟨al,g3,g4⟩:=hel _ _ _ g2;obtain⟨_,_,g5⟩:=World.cells?_some g1;exact⟨(al,cs'),g3,g4,g5⟩
  obtain⟨V,hV⟩:∃V:Nat->α×List Value,∀i,i<len->R (V i).1 (DD i)/\Cells w I (V i).2 (cD (V i).1)/\∀j,j<n->w.cell? ((a.add (i*n)).add j)=(V i).2[j]? :=
   ⟨fun i=>if h:i<len then Classical.choose (hA i h) else (default, []),fun i hi=>by simp only[dif_pos hi];exact Classical.choose_spec (hA i hi)⟩
  let l:List α:=(range len).map fun i=>(V i).1;have hl:l.length=len:=by simp[l]
  have hat:∀i,i<len->l[i]? =some (V i).1:=fun i hi=>by simp[l,hi]
  refine⟨_,l,(range len).map DD,rfl,?_,⟨by simp[l],fun i al d h1 h2=>?_⟩,.inr ⟨_,rfl⟩⟩
  rotate_left
  .have hi:i<len:=by have:=(gS h1).1;omega
   have e2:((range len).map DD)[i]? =some (DD i):=by simp[hi]
   rw[hat i hi]at h1;rw[e2]at h2;obtain rfl:=sI h1;obtain rfl:=sI h2;exact(hV i hi).1
  by_cases h0:len=0
  .have:l= []:=List.eq_nil_of_length_eq_zero (by rw[hl,h0]);rw[this,h0];exact Den.nil _ _
  .obtain⟨_,g2,g3⟩:=hV 0 ω;obtain⟨y0,hy0⟩:∃y,(V 0).2[0]? =some y:=⟨_,gE (by rw[g2.1,hlen];exact hn)⟩;have hc0:=g3 0 hn;rw[hy0,Nat.zero_mul]at hc0;have hc0':w.cell? a=some y0:=hc0;have hs:a.spot=none:=by
    unfold World.cell? at hc0';split at hc0'
    .split at hc0'
     .cases hc0'
     .rename_i h;simpa using h
    .cases hc0'
   have hlt:a.block<w.heap.size:=by
    unfold World.cell? at hc0';split at hc0'
    .rename_i h;exact(Array.getElem?_eq_some_iff.1 h).1
    .cases hc0'
   have ha:a=⟨a.block,a.off,none⟩:=by
    obtain⟨b,o,s⟩:=a;simp only at hs;subst hs;rfl
   have key:=Den.list (w:=w) (I:=I) a.block a.off cap n (l.map cD) (fun i j=>((V i).2[j]?).getD undef) (hI _ hlt) hn ?_ ?_ ?_ (by rw[length_map,hl];exact hlc)
   .rw[length_map,hl]at key;rw[<-ha]at key;exact key
   .intro rr hr;obtain⟨al,hal,rfl⟩:=List.mem_map.1 hr;exact hlen al
   .intro i j hi hj;rw[length_map,hl]at hi;obtain⟨_,h2,h3⟩:=hV i hi;have h4:=h3 j hj;rw[Zut hs]at h4;rw[h4,gE (by rw[h2.1,hlen];exact hj)];rfl
   .intro i j rr dd hr hdd;rw[List.getElem?_map]at hr;obtain⟨al,hal,rfl⟩:=Option.map_eq_some_iff.1 hr;have hi:i<len:=by have:=(gS hal).1;omega
    rw[hat i hi]at hal;obtain rfl:=sI hal;obtain⟨_,h2,_⟩:=hV i hi;have hj:j<(V i).2.length:=by rw[h2.1];exact(gS hdd).1
    show Den w I (((V i).2[j]?).getD undef) dd;rw[gE hj];exact h2.2 j _ dd (gE hj) hdd
theorem Zuk{ds:List (DataW H)}{d:DataW H}(h:d∈ds):Rows.uptoBulk d<=Rows.uptoBulkAll ds:=by
 induction ds with
 |nil=>simp at h
 |cons a l ih=>
  simp only[Rows.uptoBulkAll];rcases List.mem_cons.1 h with rfl|h
  .omega
  .have:=ih h;omega
theorem Zul{ds:List (DataW H)}(h:∀d,d∈ds->1<=Rows.uptoBulk d):ds.length<=Rows.uptoBulkAll ds:=by
 induction ds with
 |nil=>simp
 |cons a l ih=>
  simp only[Rows.uptoBulkAll,length_cons];have:=h a List.mem_cons_self;have:=ih fun d hd=>h d (List.mem_cons_of_mem _ hd);omega
theorem Zcx{α:Type}{R:α->DataW H->Prop}{l:List α}{ds:List (DataW H)}{d:DataW H}(hr:RelD R l ds)(h:(d= .nil/\ds= [])\/∃rest,d= .slice ds rest)(h1:∀a x,R a x->1<=Rows.uptoBulk x):
  1<=Rows.uptoBulk d/\l.length<Rows.uptoBulk d/\∀a,a∈l->∃x,R a x/\Rows.uptoBulk x<Rows.uptoBulk d:=by
 have hat:∀(i:Nat)(x:DataW H),ds[i]? =some x->∃a,l[i]? =some a/\R a x:=fun i x hx=>by
  have hi:i<l.length:=by rw[hr.1];exact(gS hx).1
  exact⟨_,gE hi,hr.2 i _ x (gE hi) hx⟩
 rcases h with ⟨rfl,rfl⟩|⟨rest,rfl⟩
 .have:l= []:=List.eq_nil_of_length_eq_zero (by rw[hr.1];rfl);subst this;exact⟨by simp[Rows.uptoBulk],by simp[Rows.uptoBulk],fun a ha=>by simp at ha⟩
 .simp only[Rows.uptoBulk];have:=Zul (ds:=ds) fun d hd=>by
   obtain⟨i,hi⟩:=List.mem_iff_getElem?.1 hd;obtain⟨a,_,ha⟩:=hat i d hi;exact h1 a d ha
  refine⟨ω,by rw[hr.1];omega,fun a ha=>?_⟩;obtain⟨i,hi⟩:=List.mem_iff_getElem?.1 ha;have hlt:i<ds.length:=by rw[<-hr.1];exact(gS hi).1
  have hd:ds[i]? =some ds[i]:=gE hlt;refine⟨ds[i],hr.2 i a _ hi hd,?_⟩;have:=Zuk (ds:=ds) (mG hd);omega
def Rrat(x:RV)(d:DataW H):Prop:=1<=Rows.uptoBulk d/\x.z<=Rows.uptoBulk d
def Rvec(x:RV×RV)(d:DataW H):Prop:=1<=Rows.uptoBulk d/\x.1.z<=Rows.uptoBulk d/\x.2.z<=Rows.uptoBulk d
theorem ZbB{fuel:Nat}{cs:List Value}{x:DataW H×List MemPlace}(h:DataW.trod enc Tryz.prog w base sp held fuel 23 cs=some x):∃a:RV,Rrat a x.1/\Cells w I cs (eng.rd a):=by
 obtain⟨s,a,d,rfl,rfl⟩:=Zeb h;have:=ZnO (H:=H) ⟨s,a,d⟩;exact⟨⟨s,a,d⟩,⟨by rw[Zkf];omega,this⟩,Zcw _⟩
theorem Zn7{fuel:Nat}{cs:List Value}{x:DataW H×List MemPlace}(h:DataW.trod enc Tryz.prog w base sp held fuel 25 cs=some x):∃a:RV×RV,Rvec a x.1/\Cells w I cs (eng.rdv a):=by
 obtain⟨s,a,d,s',a',d',rfl,rfl⟩:=ZkJ h;have h1:(⟨s,a,d⟩:RV).z<=Rows.uptoBulk (rd H s a d):=ZnO (H:=H) ⟨s,a,d⟩;have h2:(⟨s',a',d'⟩:RV).z<=Rows.uptoBulk (rd H s' a' d'):=ZnO (H:=H) ⟨s',a',d'⟩;refine⟨(⟨s,a,d⟩,⟨s',a',d'⟩),⟨?_,?_,?_⟩,(Zcw ⟨s,a,d⟩).app (Zcw ⟨s',a',d'⟩)⟩
 all_goals simp only[Rows.uptoBulk,Rows.uptoBulkAll]
 .omega
 .exact Nat.le_trans h1 ω
 .exact Nat.le_trans h2 ω
def Rrats(l:List RV)(d:DataW H):Prop:=1<=Rows.uptoBulk d/\l.length<=Rows.uptoBulk d/\∀x,x∈l->x.z<=Rows.uptoBulk d
def Rvecs(l:List (RV×RV))(d:DataW H):Prop:=1<=Rows.uptoBulk d/\l.length<=Rows.uptoBulk d/\∀x,x∈l->x.1.z<=Rows.uptoBulk d/\x.2.z<=Rows.uptoBulk d
theorem Zml(hI:∀b,b<w.heap.size->I b){fuel:Nat}{cs:List Value}{x:DataW H×List MemPlace}(h:DataW.trod enc Tryz.prog w base sp held fuel 33 cs=some x):∃l:List RV,Rrats l x.1/\Cells w I cs [D.list (l.map eng.rd)]:=by
 obtain⟨v,l,ds,rfl,hd,hr,hx⟩:=Zcn (R:=Rrat) eng.rd ωd (fun _=>rfl) Tryz.underlying33 Zdu (fun fuel cs x h=>ZbB h) hI h;obtain⟨h1,h2,h3⟩:=Zcx hr hx fun a x h=>h.1;exact⟨l,⟨h1,ω,fun x hx=>by obtain⟨d,g1,g2⟩:=h3 x hx;have:=g1.2;omega⟩,Cells.nil.cons hd⟩
theorem ZfD(hI:∀b,b<w.heap.size->I b){fuel:Nat}{cs:List Value}{x:DataW H×List MemPlace}(h:DataW.trod enc Tryz.prog w base sp held fuel 54 cs=some x):∃l:List (RV×RV),Rvecs l x.1/\Cells w I cs [D.list (l.map eng.rdv)]:=by
 obtain⟨v,l,ds,rfl,hd,hr,hx⟩:=Zcn (R:=Rvec) eng.rdv ωd (fun _=>rfl) Tryz.underlying54 Zi0 (fun fuel cs x h=>Zn7 h) hI h;obtain⟨h1,h2,h3⟩:=Zcx hr hx fun a x h=>h.1;exact⟨l,⟨h1,ω,fun x hx=>by obtain⟨d,g1,g2⟩:=h3 x hx;have:=g1.2;omega⟩,Cells.nil.cons hd⟩
theorem split16{α:Type}{cs:List α}(h:cs.length=16):cs=(cs.drop 0).take 3++(cs.drop 3).take 3++(cs.drop 6).take 3++(cs.drop 9).take 3++(cs.drop 12).take 3++(cs.drop 15).take 1:=by
 match cs,h with
 | [_,_,_,_,_,_,_,_,_,_,_,_,_,_,_,_],_=>rfl
theorem split12{α:Type}{cs:List α}(h:cs.length=12):cs=(cs.drop 0).take 1++(cs.drop 1).take 10++(cs.drop 11).take 1:=by
 match cs,h with
 | [_,_,_,_,_,_,_,_,_,_,_,_],_=>rfl
instance:Inhabited LinkV:=⟨⟨z0,z0,z0,z0,z0, []⟩⟩
def Rlink(l:LinkV)(d:DataW H):Prop:=1<=Rows.uptoBulk d/\l.zs (Rows.uptoBulk d)
theorem Zmm(hI:∀b,b<w.heap.size->I b){fuel:Nat}{cs:List Value}{x:DataW H×List MemPlace}(h:DataW.trod enc Tryz.prog w base sp held fuel 56 cs=some x):∃l:LinkV,Rlink l x.1/\Cells w I cs (lk l):=by
 obtain⟨xs,n,_,rfl,hl,hlen,hf⟩:=DataW.trod_struct Tryz.underlying56 h;have hl6:cs.length=16:=hl.trans ωr
 match xs,hlen with
 | [y0,y1,y2,y3,y4,y5],_=>
  obtain⟨a0,r0,c0⟩:=ZbB (I:=I) (hf 0 _ rfl);obtain⟨a1,r1,c1⟩:=ZbB (I:=I) (hf 1 _ rfl);obtain⟨a2,r2,c2⟩:=ZbB (I:=I) (hf 2 _ rfl);obtain⟨a3,r3,c3⟩:=ZbB (I:=I) (hf 3 _ rfl);obtain⟨a4,r4,c4⟩:=ZbB (I:=I) (hf 4 _ rfl);obtain⟨a5,r5,c5⟩:=ZfD hI (hf 5 _ rfl);have e1:Tryz.prog.cellsOf 54=1:=ωr;refine⟨⟨a0,a1,a2,a3,a4,a5⟩,⟨?_,?_⟩,?_⟩
  .simp only[List.map_cons,map_nil,Rows.uptoBulk];omega
  .obtain⟨_,g0⟩:=r0;obtain⟨_,g1⟩:=r1;obtain⟨_,g2⟩:=r2;obtain⟨_,g3⟩:=r3;obtain⟨_,g4⟩:=r4;obtain⟨_,g5,g6⟩:=r5;simp only[List.map_cons,map_nil,Rows.uptoBulk,Rows.uptoBulkAll];refine⟨by simp only;omega,by simp only;omega,by simp only;omega,by simp only;omega,by simp only;omega,by simp only;omega,fun p hp=>?_⟩;have:=g6 p hp;omega
  .rw[split16 hl6];exact((((c0.app c1).app c2).app c3).app c4).app c5
theorem Zs3{r:Reach}{b0:Nat}{v:Value}{d:DataW H}{ps:List MemPlace}(hval:Value.okWide Tryz.prog w r b0 32 v)(hd:DataW.Trod enc Tryz.prog w base sp held 32 v d ps)(hI:∀b,b<w.heap.size->I b):
  ∃A:ArmV,DenAV w I noBs noMem v (arm A)/\A.zs (Rows.uptoBulk d):=by
 obtain⟨cs,rfl,_⟩:=okWide_struct Tryz.underlying32 hval;obtain⟨fuel,hf⟩:=hd;obtain⟨y0,y1,y2,n,hx,hl,h0,h1,h2⟩:=Go.Deep.trod_struct3 Tryz.underlying32 hf;have hl6:(Value.agg cs).cells.toList.length=12:=hl.trans ωr;have e1:Tryz.prog.cellsOf 29=10:=ωr;have e2:Tryz.prog.cellsOf 30=1:=ωr;obtain⟨nm,g0,rfl,_⟩:=DataW.trod_string Tryz.underlying9 h0;obtain⟨s,a,e,s',a',e',b,s2,a2,e2',g1,rfl⟩:=Zmn h1;obtain⟨vl,l,ds,g2,hdl,hr,hxl⟩:=Zcn (R:=Rlink) (n:=16) lk ωd (fun _=>rfl) Tryz.underlying30 ωr (fun fuel cs x h=>Zmm hI h) hI h2;obtain⟨q1,q2,q3⟩:=Zcx hr hxl fun a x h=>h.1;obtain⟨rfl,rfl⟩:=Prod.mk.inj hx;refine⟨⟨nm,⟨s,a,e⟩,⟨s',a',e'⟩,b,⟨s2,a2,e2'⟩,l⟩,?_,?_⟩
 .have hs:=split12 hl6;rw[show ((Value.agg cs).cells.toList.drop 0).take 1= [.string nm] from g0,show ((Value.agg cs).cells.toList.drop 1).take 10=_ from g1,show ((Value.agg cs).cells.toList.drop 11).take 1= [vl] from g2]at hs;refine⟨_,congrArg Value.agg (Zzr hs),rfl,?_⟩;have hc:Cells w I ([.string nm]++[.bool s,.string a,.string e,.bool s',.string a',.string e',.bool b,.bool s2,.string a2,.string e2']++[vl]) ([.v (.string nm)]++(eng.rd ⟨s,a,e⟩++eng.rd ⟨s',a',e'⟩++[.v (.bool b)]++eng.rd ⟨s2,a2,e2'⟩)++[.list (l.map lk)]):=
   ((Cells.nil.cons (Den.v _ rfl)).app ((((Zcw ⟨s,a,e⟩).app (Zcw ⟨s',a',e'⟩)).app (Cells.nil.cons (Den.v _ rfl))).app (Zcw ⟨s2,a2,e2'⟩))).app (Cells.nil.cons hdl)
  intro j c y h3 h4;have h5:∃dd,c= .d dd/\([.v (.string nm)]++(eng.rd ⟨s,a,e⟩++eng.rd ⟨s',a',e'⟩++[.v (.bool b)]++eng.rd ⟨s2,a2,e2'⟩)++[.list (l.map lk)]:List D)[j]? =some dd:=by
   have h6:(([.v (.string nm)]++(eng.rd ⟨s,a,e⟩++eng.rd ⟨s',a',e'⟩++[.v (.bool b)]++eng.rd ⟨s2,a2,e2'⟩)++[.list (l.map lk)]:List D).map C.d)[j]? =some c:=h3;rw[List.getElem?_map]at h6;obtain⟨dd,g,rfl⟩:=Option.map_eq_some_iff.1 h6;exact⟨dd,rfl,g⟩
  obtain⟨dd,rfl,h7⟩:=h5;exact hc.2 j y dd h4 h7
 .simp only[Rows.uptoBulk,Rows.uptoBulkAll,num.ba_length,Zkf];refine⟨by simp only;omega,by unfold RV.z;simp only;omega,by unfold RV.z;simp only;omega,by unfold RV.z;simp only;omega,by simp only;omega,fun m hm=>?_⟩;obtain⟨dd,⟨_,k1,k2,k3,k4,k5,k6,k7⟩,hlt⟩:=q3 m hm;exact⟨ω,ω,ω,ω,ω,ω,fun p hp=>by have:=k7 p hp;omega⟩
theorem ZmP{r:Reach}{b0:Nat}{v:Value}{d:DataW H}{ps:List MemPlace}(hval:Value.okWide Tryz.prog w r b0 34 v)(hd:DataW.Trod enc Tryz.prog w base sp held 34 v d ps)(hI:∀b,b<w.heap.size->I b):
  ∃l:List (List (RV×RV)),Den w I v (.list (l.map fun m=>[D.list (m.map eng.rdv)]))/\l.length<=Rows.uptoBulk d/\∀m,m∈l->m.length<=Rows.uptoBulk d/\∀x,x∈m->x.1.z<=Rows.uptoBulk d/\x.2.z<=Rows.uptoBulk d:=by
 obtain⟨av,len,cap,rfl⟩:=okWide_slice Tryz.underlying34 hval;obtain⟨fuel,hf⟩:=hd;obtain⟨v,l,ds,g2,hdl,hr,hx⟩:=Zcn (R:=Rvecs) (n:=1) (fun m:List (RV×RV)=>[D.list (m.map eng.rdv)]) ωd (fun _=>rfl) Tryz.underlying34 ωr (fun fuel cs x h=>ZfD hI h) hI hf;obtain⟨h1,h2,h3⟩:=Zcx (d:=d) hr hx fun a x h=>h.1;obtain rfl:=(List.cons.inj g2).1;exact⟨l,hdl,ω,fun k hk=>by obtain⟨x,⟨_,a2,a3⟩,g⟩:=h3 k hk;exact⟨ω,fun y hy=>by have:=a3 y hy;omega⟩⟩
theorem ZxA{A:ArmV}{B C:Nat}(h:A.zs B)(hB:B<=C):A.zs C:=by
 obtain⟨h1,h2,h3,h4,h5,h6⟩:=h;refine⟨ω,ω,ω,ω,ω,fun l hl=>?_⟩;obtain⟨a1,a2,a3,a4,a5,a6,a7⟩:=h6 l hl;exact⟨ω,ω,ω,ω,ω,ω,fun p hp=>by have:=a7 p hp;omega⟩
def ratsZ(l:List RV)(B:Nat):Prop:=l.length<=B/\∀x,x∈l->x.z<=B
theorem ZkC{l:List RV}{B C:Nat}(h:ratsZ l B)(hB:B<=C):ratsZ l C:=⟨Nat.le_trans h.1 hB,fun x hx=>Nat.le_trans (h.2 x hx) hB⟩
def pairsZ(l:List (RV×RV))(B:Nat):Prop:=l.length<=B/\∀x,x∈l->x.1.z<=B/\x.2.z<=B
theorem ZnN{l:List (RV×RV)}{B C:Nat}(h:pairsZ l B)(hB:B<=C):pairsZ l C:=⟨Nat.le_trans h.1 hB,fun x hx=>⟨Nat.le_trans (h.2 x hx).1 hB,Nat.le_trans (h.2 x hx).2 hB⟩⟩
def polysZ(l:List (List (RV×RV)))(B:Nat):Prop:=l.length<=B/\∀m,m∈l->pairsZ m B
theorem ZkD{l:List (List (RV×RV))}{B C:Nat}(h:polysZ l B)(hB:B<=C):polysZ l C:=⟨Nat.le_trans h.1 hB,fun m hm=>ZnN (h.2 m hm) hB⟩
theorem ZfU{r:Reach}{b0:Nat}{v:Value}{d:DataW H}{ps:List MemPlace}(hval:Value.okWide Tryz.prog w r b0 33 v)(hd:DataW.Trod enc Tryz.prog w base sp held 33 v d ps)(hI:∀b,b<w.heap.size->I b):
  ∃l:List RV,Den w I v (.list (l.map eng.rd))/\ratsZ l (Rows.uptoBulk d):=by
 obtain⟨av,len,cap,rfl⟩:=okWide_slice Tryz.underlying33 hval;obtain⟨fuel,hf⟩:=hd;obtain⟨l,hr,hc⟩:=Zml hI hf;exact⟨l,hc.2 0 _ _ rfl rfl,hr.2⟩
end
