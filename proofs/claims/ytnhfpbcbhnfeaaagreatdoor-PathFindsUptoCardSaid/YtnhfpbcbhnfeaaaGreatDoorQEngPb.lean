/- The engine, no program: code by data. A state of a call is given by data (variables, rows, lists that stay); sp reckons what a piece of code does to it; ZeC: a function whose code does so keeps its contract. Joined by wip/merge_eng.py. -/
import Derived.Test.YtnhfpbcbhnfeaaaGreatDoorQEngP
import Derived.Lib.ConvBytes
import Derived.Laws.BytesArg
import Derived.Maps.RangeRun
open List (mem_of_getElem? getElem?_map getElem?_eq_getElem getD)
namespace Go.Proofs.YtnhfpbcbhnfeaaaGreatDoor.eng
open Go.RowKit mem
section
variable{P:Program}{G:World->Prop}{w0:Base}{I0:Nat->Prop}{nt:Shape}{env env':Env}{mem mem':Mem}{bs:Bs}{a:Act}{w:World}
def planIndexV(TB:List (Nat×Ty))(env:Env)(T:TypeId)(x i:Operand):Plan:=
 match look TB T with
 |some ty=>match ty.str with
  |true=>match opd env x with
   | .val (.one (.d (.v (.string s))))=>intK (opd env i) (fun m=>.ask fun r=>∃b:UInt8,0<=m/\s[m.toNat]? =some b/\r=one (.int .u8 (b.toNat:Int))) .bad
   |_=>.bad
  |false=>.bad
 |none=>.bad
theorem ZhZ{TB:List (Nat×Ty)}(hTB:TBok P TB)(st:St w0 I0 nt env mem bs a w)(hE:∀t,env' t= .junk\/env' t=env t)
 (o:Oper)(T:TypeId)(x i:Operand)(ho:o.op= .index T x i):SoundPlan P w0 I0 nt env mem a w o (planIndexV TB env' T x i):=by
 unfold planIndexV;split
 .rename_i ty hty;obtain⟨ti,tu,tz,hi⟩:=Zr (hTB T ty (Zl hty));split
  .rename_i hstr;have hu:=hi.string hstr;obtain⟨h1,_⟩:=Zc st hE x;obtain⟨g1,_⟩:=Zc st hE i;split
   .rename_i s hs;rw[hs]at h1;have ex:=Zj h1;rcases Zad (opd env' i) (fun m=>Plan.ask fun r=>∃b:UInt8,0<=m/\s[m.toNat]? =some b/\r=one (.int .u8 (b.toNat:Int))) Plan.bad with ⟨kd,m,f1,f2⟩|f2
    .rw[f2];rw[f1]at g1;have ei:=Zj g1;intro r ⟨b,h0,hb,hr⟩;subst hr;refine Za (.int .u8 (b.toNat:Int)) ?_ (Zf st (Den.v _ rfl) (fun p hp=>by simp[one,AV.hs,S.hs,C.hs]at hp));simp[execOp,ho,ex,ei,Instr.index,asIntOf,run_underlying hu,h0,hb]
    .rw[f2];trivial
   .trivial
  .trivial
 .trivial
def rowsK{β:Type}(mem:Mem)(v:AV)(k:List (List D)->β)(bad:β):β:=
 match v with
 | .val (.one (.d (.list xs)))=>k xs
 | .val (.one (.full xs))=>k xs
 | .val (.one (.row o v))=>match mem o with
  | .row _ _ v' xs _=>bif Nat.beq v v' then k xs else bad
  |_=>bad
 | .val (.one (.d (.v (.slice none 0 0))))=>k []
 |_=>bad
def Singles(w:World)(I:Nat->Prop)(x:Value)(xs:List (List D)):Prop:=
 (xs= []/\∃ad c,x= .slice ad 0 c)\/∃b off c,x= .slice (some ⟨b,off,none⟩) xs.length c/\∀(i:Nat)(d:D),xs[i]? =some [d]->∃y,w.cell? ⟨b,off+i,none⟩=some y/\Den w I y d
theorem ZcI{I:Nat->Prop}{x:Value}{xs:List (List D)}(h:Den w I x (.list xs))(h1:∀r,r∈xs->r.length=1):Singles w I x xs:=by
 generalize hd:(D.list xs)=d at h
 cases h with
 |v x hx=>simp at hd
 |iface _ _ _ _ _=>simp at hd
 |fn _ _ _ _ _ _ _ _=>simp at hd
 |map _ _ _ _ _=>simp at hd
 |nil ad cap=>simp only[D.list.injEq]at hd;subst hd;exact .inl ⟨rfl,ad,cap,rfl⟩
 |list b off cap n ys c hI hn hl hc hdd hcap=>
  simp only[D.list.injEq]at hd;subst hd;refine .inr ⟨b,off,cap,rfl,fun i d hi=>?_⟩;have hlt:i<xs.length:=(gS hi).1;have hn1:n=1:=by rw[<-hl _ (mG hi)];rfl
  subst hn1;have:=hc i 0 hlt ω;rw[Nat.mul_one,Nat.add_zero]at this;exact⟨_,this,hdd i 0 _ d hi rfl⟩
theorem ZmE{β:Type}(st:St w0 I0 nt env mem bs a w)(hM:∀o,mem' o= .gone\/mem' o=mem o)(v:AV)(k:List (List D)->β)(bad:β):
  (∃xs,rowsK mem' v k bad=k xs/\∀x,DenAV w (Stay w0 I0 mem bs w) bs mem x v->(∀r,r∈xs->r.length=1)->Singles w (Stay w0 I0 mem bs w) x xs)\/rowsK mem' v k bad=bad:=by
 unfold rowsK;split
 .exact .inl ⟨_,rfl,fun x h h1=>ZcI (show Den w _ x _ from h) h1⟩
 .exact .inl ⟨_,rfl,fun x h h1=>ZcI h.1 h1⟩
 .rename_i o v;split
  .rename_i T n v' xs own ho;have ho':mem o= .row T n v' xs own:=by
    rcases hM o with h|h
    .rw[h]at ho;simp at ho
    .rw[<-h];exact ho
   cases e:Nat.beq v v' with
   |false=>exact .inr rfl
   |true=>
    obtain rfl:=Nat.eq_of_beq_eq_true e;refine .inl ⟨_,rfl,fun x h h1=>?_⟩;have hx:x=bs o:=h.2 _ _ _ _ ho';have hob:=st.obs o;rw[ho']at hob
    cases own with
    |false=>rw[hx];exact ZcI (show Den w _ (bs o) _ from hob) h1
    |true=>
     obtain⟨ys,g1,g2,g3,g4,g5⟩:=hob;rcases g1.2 with ⟨g6,g7⟩|⟨g,cap,cur,g6,_⟩
     .have:xs= []:=List.length_eq_zero_iff.1 g7;exact .inl ⟨this,none,0,by rw[hx,g6]⟩
     .refine .inr ⟨g,0,cap,by rw[hx,g6],fun i d hi=>?_⟩;have hn1:n=1:=by rw[<-g4 _ (mG hi)];rfl
      subst hn1;obtain⟨y,hy,hd⟩:=g5 i 0 _ d hi rfl;rw[Nat.mul_one,Nat.add_zero]at hy;have:=g1.row.cells (g:=g) (by rw[g6];rfl) i y hy;rw[Addr.add_lit]at this;exact⟨y,this,hd⟩
  .exact .inr rfl
 .exact .inl ⟨[],rfl,fun x h _=>.inl ⟨rfl,none,0,Zj h⟩⟩
 .exact .inr rfl
def bytesD(s:ByteArray):List (List D):=s.data.toList.map fun c=>[D.v (.int .u8 (c.toNat:Int))]
theorem Zi2(w:World)(e:TypeId)(s:ByteArray):Below w.heap.size w (Lib.bytesWorld w e s):=
 ⟨rfl,rfl,rfl,by rw[Lib.bytesWorld_size];omega,fun k hk=>Lib.bytesWorld_at_old w e s k hk⟩
theorem Znr(w:World)(e:TypeId)(s:ByteArray){I:Nat->Prop}(hI:I w.heap.size)(c:Nat)(hc:s.size<=c):Den (Lib.bytesWorld w e s) I (.slice (some ⟨w.heap.size,0,none⟩) s.size c) (.list (bytesD s)):=by
 have hl:(bytesD s).length=s.size:=by unfold bytesD;rw[List.length_map];rfl
 rw[<-hl];refine Den.list w.heap.size 0 c 1 (bytesD s) (fun i _=>.int .u8 ((s.data.toList.getD i 0).toNat:Int)) hI ωd (fun r hr=>?_) (fun i j hi hj=>?_) (fun i j r d h1 h2=>?_) (by rw[hl];exact hc)
 .obtain⟨x,_,rfl⟩:=List.mem_map.1 hr;rfl
 .obtain rfl:j=0:=ω;rw[hl]at hi;have:=Lib.bytesWorld_cell w e s i hi;rw[show 0+i*1+0=i by omega];exact this
 .unfold bytesD at h1;rw[getElem?_map]at h1
  cases e1:s.data.toList[i]? with
  |none=>rw[e1]at h1;simp at h1
  |some x=>
   rw[e1]at h1;obtain rfl: [D.v (.int .u8 (x.toNat:Int))]=r:=sI h1;have hj:j=0:=by
    have:=(gS h2).1;simp at this;omega
   subst hj;obtain rfl:D.v (.int .u8 (x.toNat:Int))=d:=sI h2;rw[List.getD_eq_getElem?_getD,e1];exact Den.v _ rfl
def planConvert(P:Program)(env:Env)(mem:Mem)(src dst:TypeId)(x:Operand):Plan:=
 match opd env x with
 | .val (.one (.d (.v (.int _ n))))=>.ask fun r=>∃k',(P.underlying src).isSome=true/\P.underlying dst=some (.int k')/\r=one (.int k' (k'.wrap n))
 | .val (.one (.d (.v (.string s))))=>.ask fun r=>∃e,(P.underlying src).isSome=true/\P.underlying dst=some (.slice e)/\P.underlying e=some (.int .u8)/\r= .val (.one (.d (.list (bytesD s))))
 |v=>rowsK mem v (fun xs=>.ask fun r=>∃(e:TypeId)(ns:List Int),xs=ns.map (fun n=>[D.v (.int .u8 n)])/\P.underlying src=some (.slice e)/\P.underlying e=some (.int .u8)/\P.underlying dst=some .string/\r=one (.string (strOfNums ns))) .bad
theorem ZgD(st:St w0 I0 nt env mem bs a w)(hE:∀t,env' t= .junk\/env' t=env t)(hM:∀o,mem' o= .gone\/mem' o=mem o)
 (o:Oper)(src dst:TypeId)(x:Operand)(ho:o.op= .convert src dst x):SoundPlan P w0 I0 nt env mem a w o (planConvert P env' mem' src dst x):=by
 obtain⟨h1,_⟩:=Zc st hE x;unfold planConvert;split
 .rename_i k n hn;rw[hn]at h1;have e:=Zj h1;intro r ⟨k',hs,hd,hr⟩;subst hr;refine Za (.int k' (k'.wrap n)) ?_ (Zf st (Den.v _ rfl) (fun p hp=>by simp[one,AV.hs,S.hs,C.hs]at hp));obtain⟨d,hd'⟩:=Option.isSome_iff_exists.mp hs;have:(convert src dst (.int k n)).run P w= .ok (.int k' (k'.wrap n)) w:=by simp[convert,run_underlying hd',run_underlying hd,Conv.intToInt]
  simp[execOp,ho,e,this]
 .rename_i s hn;rw[hn]at h1;have e:=Zj h1;intro r ⟨el,hs,hd,he,hr⟩;subst hr;obtain⟨d,hd'⟩:=Option.isSome_iff_exists.mp hs;have hrun:=Lib.run_convert_string_bytes (P:=P) w src dst el s hd' hd he;refine Za (w':=Lib.bytesWorld w el s) (.slice (some ⟨w.heap.size,0,none⟩) s.size (grownCap w s.size 0 el)) ?_ ?_
  .simp[execOp,ho,e,hrun]
  .have hb:=Zi2 w el s;obtain⟨K,st'⟩:=st.grow hb;exact Zf st' (Znr w el s (Zc3 hb st _ (.inr ⟨Nat.le_refl _,by rw[Lib.bytesWorld_size];omega⟩)) _<|grownCap_ge w s.size 0 el) (fun p hp=>by simp[AV.hs,S.hs,C.hs]at hp)
 .rename_i v hv;rcases ZmE st hM (opd env' x) (fun xs=>Plan.ask fun r=>∃(e:TypeId)(ns:List Int),xs=ns.map (fun n=>[D.v (.int .u8 n)])/\P.underlying src=some (.slice e)/\P.underlying e=some (.int .u8)/\P.underlying dst=some .string/\r=one (.string (strOfNums ns))) Plan.bad with ⟨xs,e1,h2⟩|e1
  .rw[e1];intro r ⟨e,ns,hxs,hs,he,hd,hr⟩;subst hr;refine Za (.string (strOfNums ns)) ?_ (Zf st (Den.v _ rfl) (fun p hp=>by simp[one,AV.hs,S.hs,C.hs]at hp));have hrun:(convert src dst (a.eval x)).run P w= .ok (.string (strOfNums ns)) w:=by
    rcases h2 _ h1 (by intro r hr;rw[hxs]at hr;obtain⟨n,_,rfl⟩:=List.mem_map.1 hr;rfl) with ⟨h3,ad,c,h4⟩|⟨b,off,c,h4,h5⟩
    .rw[h4];rw[h3]at hxs;have hns:ns= []:=List.map_eq_nil_iff.1 hxs.symm;subst hns
     cases ad with
     |none=>
      have:=run_convert_bytes_nil (P:=P) w src e hs he 0 c dst hd;rw[this];rfl
     |some q=>
      have:=run_convert_bytes_string (P:=P) w src dst e (some q) 0 c hs he hd;rw[this,run_bytesToString w q 0 c [] (by simp[loadCells,loadCellsFrom])];rfl
    .rw[h4];have hlen:ns.length=xs.length:=by rw[hxs,List.length_map]
     refine run_convert_bytes_arg (P:=P) w src e hs he b off xs.length c ns hlen (fun i hi=>?_) dst hd;have hin:i<ns.length:=ω;obtain⟨y,hy,hden⟩:=h5 i (.v (.int .u8 ns[i])) (by rw[hxs,getElem?_map,gE hin];rfl);cases hden;rw[hy];simp[getD,gE hin]
   simp[execOp,ho,hrun]
  .rw[e1];trivial
end
section
variable{P:Program}{G:World->Prop}{w0:Base}{I0:Nat->Prop}{nt:Shape}{env env':Env}{mem mem':Mem}{bs:Bs}{a:Act}{w:World}
theorem ZcY{α:Type}(f:Nat->α)(i:Nat):upd f i (f i)=f:=by
 funext j;by_cases e:j=i
 .subst e;rw[Zk]
 .rw[ZQ _ _ e]
theorem St.freeze(st:St w0 I0 nt env mem bs a w)(o:Nat){T n k:Nat}{xs:List (List D)}(hm:mem o= .row T n k xs true):St w0 I0 nt env (upd mem o (.row T n k xs false)) bs a w:=by
 have hv:Turns mem bs o (.row T n k xs false) (bs o):=.inr (.inr (.inl ⟨T,n,k,xs,true,T,n,k,xs,false,hm,rfl,Nat.le_refl _,fun _=>⟨rfl,rfl⟩⟩));have K:=st.keeps o (.row T n k xs false) (bs o) (Bel.refl _ w) (fun _ _ _=>rfl) (fun b hb=>by simp[Ob.mut]at hb) hv;have h:=st.update o (.row T n k xs false) (bs o) (Bel.refl _ w) (fun _ _ _=>rfl) (fun b hb=>by simp[Ob.mut]at hb) hv rfl (fun p hp=>by simp[Ob.hs]at hp) (by
  rw[ZcY]at K⊢;show Den w _ (bs o) (.list xs);have ho:=st.obs o;rw[hm]at ho;obtain⟨ys,hown,hn,hlen,hrow,hden⟩:=ho;have hown':=hown;obtain⟨h1,h2⟩:=hown;rcases h2 with ⟨hnil,h0⟩|⟨g,cap,cur,hbs,hb,hg,hle,hmax,hsz,htk⟩
  .rw[hnil];have:xs= []:=List.length_eq_zero_iff.1 h0;subst this;exact Den.nil none 0
  .have hlt:g<w.heap.size:=(Array.getElem?_eq_some_iff.1 hg).1;have hblk:blk (bs o)=some g:=by rw[hbs];rfl
   have hown2:(bs o).ownBlock=some g:=by rw[hbs];rfl
   have hcells:=hown'.row.cells hown2;rw[hbs];refine Den.list g 0 cap n xs (fun i j=>ys.getD (i*n+j) undef) (.inr ⟨hb,hlt,fun o' hm' hbk=>?_⟩) hn hrow (fun i j hi hj=>?_) (fun i j r d hr hd=>?_) hle
   .by_cases e:o'=o
    .subst e;rw[Zk]at hm';simp[Ob.mut]at hm'
    .rw[ZQ _ _ e]at hm';exact e (st.sep o' o g hm' (by rw[hm];rfl) hbk hblk)
   .have hin:i*n+j<ys.length:=by
     have:(i+1)*n<=xs.length*n:=Nat.mul_le_mul_right _ hi;rw[Nat.add_mul,Nat.one_mul]at this;omega
    have:=hcells (i*n+j) ys[i*n+j] (gE hin);rw[Addr.add_lit]at this;rw[show 0+i*n+j=0+(i*n+j) by omega,this];simp[getD,gE hin]
   .obtain⟨y,hy,hd'⟩:=hden i j r d hr hd;have e:ys.getD (i*n+j) undef=y:=by simp[getD,hy]
    rw[e];exact Den.mono K.stay hd')
 rwa[ZcY]at h
noncomputable def ownCells(mem:Mem)(q:Option (Nat×Ob))(cs:List C):Option (Nat×Ob):=
 @List.rec C (fun _=>Option (Nat×Ob)) q (fun c _ r=>match c with
  | .row o _=>match mem o with
   | .row T n v ys true=>some (o,.row T n v ys false)
   |_=>r
  |_=>r) cs
theorem ZjM{q:Option (Nat×Ob)}{cs:List C}{p:Nat×Ob}(h:ownCells mem q cs=some p):q=some p\/∃T n k ys,mem p.1= .row T n k ys true/\p.2= .row T n k ys false:=by
 induction cs with
 |nil=>exact .inl h
 |cons c r ih=>
  unfold ownCells at h;simp only at h;split at h
  .split at h
   .rename_i hm;obtain rfl:=sI h;exact .inr ⟨_,_,_,_,hm,rfl⟩
   .exact ih h
  .exact ih h
noncomputable def ownArg(env:Env)(mem:Mem)(xs:List Operand):Option (Nat×Ob):=
 @List.rec Operand (fun _=>Option (Nat×Ob)) none (fun x _ r=>match opd env x with
  | .val (.one (.row o _))=>match mem o with
   | .row T n v ys true=>some (o,.row T n v ys false)
   |_=>r
  | .val (.agg cs)=>ownCells mem r cs
  |_=>r) xs
theorem Zik{xs:List Operand}{p:Nat×Ob}(h:ownArg env mem xs=some p):∃T n k ys,mem p.1= .row T n k ys true/\p.2= .row T n k ys false:=by
 induction xs with
 |nil=>simp[ownArg]at h
 |cons x r ih=>
  unfold ownArg at h;simp only at h;split at h
  .split at h
   .rename_i hm;obtain rfl:=sI h;exact⟨_,_,_,_,hm,rfl⟩
   .exact ih h
  .rcases ZjM h with h|h
   .exact ih h
   .exact h
  .exact ih h
def toF(id:Nat)(ob:Ob):Plan->Plan
 | .askN _ Φ=>.askF id ob Φ
 |_=>.bad
noncomputable def planCallG(P:Program)(G:World->Prop)(env:Env)(mem:Mem)(dst:Option Nat)(f:Operand)(xs:List Operand):Plan:=
 match ownArg env mem xs with
 |none=>planCallF false P G env mem dst f xs
 |some p=>toF p.1 p.2 (planCallF false P G env (upd mem p.1 p.2) none f xs)
theorem Zjs(hG:G w)(st:St w0 I0 nt env mem bs a w)(hE:∀t,env' t= .junk\/env' t=env t)(hM:∀o,mem' o= .gone\/mem' o=mem o)
 (o:Oper)(dst:Option Nat)(f:Operand)(xs:List Operand)(ts:Array TypeId)(ho:o.op= .call { callee:=.value f,args:=⟨xs⟩,argTypes:=ts })(hD:∀d,dst=some d->mem' d=mem d):SoundPlan P w0 I0 nt env mem a w o (planCallG P G env' mem' dst f xs):=by
 unfold planCallG;split
 .exact ZcH false hG st hE hM o dst f xs ts ho hD
 .rename_i p hp;obtain⟨T,n,k,ys,h1,h2⟩:=Zik hp;have hm:mem p.1= .row T n k ys true:=by
   rcases hM p.1 with h|h
   .rw[h]at h1;simp at h1
   .rw[<-h];exact h1
  rw[h2];have st1:=st.freeze p.1 hm;have h:=ZcH false (P:=P) (mem':=upd mem' p.1 (.row T n k ys false)) hG st1 hE (fun i=>by
   by_cases e:i=p.1
   .subst e;rw[Zk,Zk];exact .inr rfl
   .rw[ZQ _ _ e,ZQ _ _ e];exact hM i) o none f xs ts ho (fun d hd=>by simp at hd)
  cases hq:planCallF false P G env' (upd mem' p.1 (.row T n k ys false)) none f xs with
  |askN d Φ=>rw[hq]at h;exact h.1
  |_=>trivial
def toR(id:Nat)(ob:Ob):Plan->Plan
 | .ret v=>.put v id ob
 |_=>.bad
noncomputable def planBuildSliceF(TB:List (Nat×Ty))(env:Env)(mem:Mem)(T:TypeId)(n:Nat)(parts:List (Nat×Operand)):Plan:=
 match ownArg env mem (parts.map (·.2)) with
 |none=>planBuildSlice TB env mem T n parts
 |some p=>toR p.1 p.2 (planBuildSlice TB env (upd mem p.1 p.2) T n parts)
theorem Zdy{TB:List (Nat×Ty)}(hTB:TBok P TB)(st:St w0 I0 nt env mem bs a w)(hE:∀t,env' t= .junk\/env' t=env t)(hM:∀o,mem' o= .gone\/mem' o=mem o)
 (o:Oper)(T:TypeId)(n:Nat)(parts:Array (Nat×Operand))(ho:o.op= .buildSlice T n parts):SoundPlan P w0 I0 nt env mem a w o (planBuildSliceF TB env' mem' T n parts.toList):=by
 unfold planBuildSliceF;split
 .exact ZbW hTB st hE hM o T n parts ho
 .rename_i p hp;obtain⟨T1,n1,k,ys,h1,h2⟩:=Zik hp;have hm:mem p.1= .row T1 n1 k ys true:=by
   rcases hM p.1 with h|h
   .rw[h]at h1;simp at h1
   .rw[<-h];exact h1
  rw[h2];have st1:=st.freeze p.1 hm;have h:=ZbW (P:=P) (mem':=upd mem' p.1 (.row T1 n1 k ys false)) hTB st1 hE (fun i=>by
   by_cases e:i=p.1
   .subst e;rw[Zk,Zk];exact .inr rfl
   .rw[ZQ _ _ e,ZQ _ _ e];exact hM i) o T n parts ho
  cases hq:planBuildSlice TB env' (upd mem' p.1 (.row T1 n1 k ys false)) T n parts.toList with
  |ret v=>rw[hq]at h;exact h
  |_=>trivial
def planAssignF(env:Env)(mem:Mem)(x:Operand):Plan:=
 match opd env x with
 | .val (.one (.row o k))=>match mem o with
  | .row T n k' xs true=>bif Nat.beq k k' then .put (.val (.one (.d (.list xs)))) o (.row T n k xs false) else .bad
  |_=>.bad
 |v=>.ret v
theorem ZgE(st:St w0 I0 nt env mem bs a w)(hE:∀t,env' t= .junk\/env' t=env t)(hM:∀o,mem' o= .gone\/mem' o=mem o)(o:Oper)(x:Operand)(ho:o.op= .assign x):SoundPlan P w0 I0 nt env mem a w o (planAssignF env' mem' x):=by
 obtain⟨g1,_⟩:=Zc st hE x;unfold planAssignF;split
 .rename_i q k hx;rw[hx]at g1;split
  .rename_i T n k' xs hm
   cases hk:Nat.beq k k' with
   |false=>trivial
   |true=>
    obtain rfl:=Nat.eq_of_beq_eq_true hk;have hm1:mem q= .row T n k xs true:=by
     rcases hM q with h|h
     .rw[h]at hm;simp at hm
     .rw[<-h];exact hm
    have ex1:a.eval x=bs q:=g1.2 _ _ _ _ hm1;have st1:=st.freeze q hm1;have hob:=st1.obs q;rw[Zk]at hob;have hob:Den w (Stay w0 I0 (upd mem q (.row T n k xs false)) bs w) (bs q) (.list xs):=hob;simp only[cond_true];refine Za (a.eval x) ?_ (Zf st1 (v:=.val (.one (.d (.list xs)))) (by rw[ex1];exact hob) (fun p hp=>by simp[AV.hs,S.hs,C.hs]at hp));simp[execOp,ho]
  .trivial
 .exact Zdx st hE o x (.inr ho)
def frzO(o:Nat)(mem:Mem):Mem:=match mem o with
 | .row T n k xs true=>upd mem o (.row T n k xs false)
 |_=>mem
theorem St.frzO(st:St w0 I0 nt env mem bs a w)(o:Nat):St w0 I0 nt env (frzO o mem) bs a w:=by
 unfold eng.frzO;split
 .rename_i hm;exact st.freeze o hm
 .exact st
def frzC(c:C)(mem:Mem):Mem:=match c with
 | .row o _=>frzO o mem
 |_=>mem
theorem St.frzC(st:St w0 I0 nt env mem bs a w)(c:C):St w0 I0 nt env (frzC c mem) bs a w:=by
 unfold eng.frzC;split
 .exact st.frzO _
 .exact st
def frzCs:List C->Mem->Mem
 | [],mem=>mem
 |c::r,mem=>frzCs r (frzC c mem)
theorem St.frzCs:∀(cs:List C){mem:Mem},St w0 I0 nt env mem bs a w->St w0 I0 nt env (frzCs cs mem) bs a w
 | [],_,st=>st
 |c::r,_,st=>St.frzCs r (st.frzC c)
def frzR(env:Env):List ResultVar->Mem->Mem
 | [],mem=>mem
 | .tmp t::r,mem=>frzR env r (match env t with
  | .val (.one c)=>frzC c mem
  | .val (.agg cs)=>frzCs cs mem
  |_=>mem)
 | .cell t _::r,mem=>frzR env r (match env t with
  | .val (.one (.ptr b _))=>match mem b with
   | .var _ cs=>frzCs cs mem
   |_=>mem
  |_=>mem)
theorem St.frzR:∀(rs:List ResultVar){mem:Mem},St w0 I0 nt env mem bs a w->St w0 I0 nt env (frzR env rs mem) bs a w
 | [],_,st=>st
 | .tmp t::r,_,st=>by
  unfold eng.frzR;refine St.frzR r ?_;split
  .exact st.frzC _
  .exact St.frzCs _ st
  .exact st
 | .cell t T::r,_,st=>by
  unfold eng.frzR;refine St.frzR r ?_;split
  .split
   .exact St.frzCs _ st
   .exact st
  .exact st
end
section
variable{P:Program}{G:World->Prop}{w0:Base}{I0:Nat->Prop}{nt:Shape}{env env':Env}{mem mem':Mem}{bs:Bs}{a:Act}{w:World}
def planMakeIface(P:Program)(env:Env)(mem:Mem)(T:TypeId)(x:Operand):Plan:=
 match opd env x with
 | .val (.agg cs)=>dsK mem cs (fun ds=>.ask fun r=>r= .val (.one (.d (.iface T ds)))/\∀w v,(Instr.makeInterface T v).run P w= .ok (.iface T v) w) .bad
 |_=>.bad
theorem ZeE(st:St w0 I0 nt env mem bs a w)(hE:∀t,env' t= .junk\/env' t=env t)(hM:∀o,mem' o= .gone\/mem' o=mem o)
 (o:Oper)(T:TypeId)(x:Operand)(ho:o.op= .makeInterface T x):SoundPlan P w0 I0 nt env mem a w o (planMakeIface P env' mem' T x):=by
 unfold planMakeIface;split
 .rename_i cs hx;obtain⟨h1,_⟩:=Zc st hE x;rw[hx]at h1;obtain⟨l,ex,hl,hr⟩:=h1;rcases Zer st hM cs (fun ds=>Plan.ask fun r=>r= .val (.one (.d (.iface T ds)))/\∀w v,(Instr.makeInterface T v).run P w= .ok (.iface T v) w) Plan.bad with ⟨ds,e1,f1⟩|e1
  .rw[e1];intro r ⟨hr',hrun⟩;subst hr';have hd:=f1 l ⟨hl,hr⟩;refine Za (.iface T (.agg l.toArray)) ?_ (Zf st (Den.iface T l ds hd.1 hd.2) (fun p hp=>by simp[AV.hs,S.hs,C.hs]at hp));simp only[execOp,ho,ex,Sem.run_bind,hrun,Result.andThen_ok,Sem.run_pure]
  .rw[e1];trivial
 .trivial
def MethodIs(P:Program)(T:TypeId)(name:String)(g:FuncId):Prop:=
 ∀(w:World)(v:Value),(method (P.types.size+Made.depth) T v name).run P w= .ok (g,v) w
def planInvoke(P:Program)(G:World->Prop)(env:Env)(mem:Mem)(recv:Operand)(name:String)(xs:List Operand):Plan:=
 match opd env recv with
 | .val (.one (.d (.iface T ds)))=>argAVs false mem env xs (fun az=>.ask fun r=>r.isNew=false/\∃g,MethodIs P T name g/\CallR P G g (.val (.agg (ds.map C.d))::az) r) .bad
 |_=>.bad
theorem ZhY(hG:G w)(st:St w0 I0 nt env mem bs a w)(hE:∀t,env' t= .junk\/env' t=env t)(hM:∀o,mem' o= .gone\/mem' o=mem o)
 (o:Oper)(recv:Operand)(name:String)(xs:List Operand)(ts:Array TypeId)(ho:o.op= .call { callee:=.invoke recv name,args:=⟨xs⟩,argTypes:=ts }):SoundPlan P w0 I0 nt env mem a w o (planInvoke P G env' mem' recv name xs):=by
 obtain⟨h1,_⟩:=Zc st hE recv;unfold planInvoke;split
 .rename_i T ds hf;rw[hf]at h1;have h1':Den w (Stay w0 I0 mem bs w) (a.eval recv) (.iface T ds):=h1;rcases ZaN false st hE hM xs (fun az=>Plan.ask fun r=>r.isNew=false/\∃g,MethodIs P T name g/\CallR P G g (.val (.agg (ds.map C.d))::az) r) Plan.bad with ⟨l,e,hl⟩|e
  .rw[e];intro r ⟨hn,g,hm,hcall⟩;obtain⟨hr,hspec⟩:=Zl6 hcall hn;generalize hrv:a.eval recv=rv at h1'
   cases h1' with
   |iface _ vl _ hvl hvd=>
    have hrel:Rel2 (fun y v=>DenAV w (Stay w0 I0 mem bs w) noBs noMem y v) (.agg vl.toArray::xs.map a.eval) (.val (.agg (ds.map C.d))::l):=by
     refine(hl noBs noMem).cons ⟨vl,rfl,by simp[hvl],fun j c y hc hy=>?_⟩;rw[getElem?_map]at hc
     cases hq:ds[j]? with
     |none=>rw[hq]at hc;simp at hc
     |some d=>
      rw[hq]at hc;obtain rfl:=sI hc;exact hvd j d y hq hy
    have hc:=hspec.2 w (Stay w0 I0 mem bs w) (.agg vl.toArray::xs.map a.eval) hG (fun b hb=>by
     rcases hb with ⟨_,h⟩|⟨_,h,_⟩
     .exact st.ltK h
     .exact h) hrel
    refine Za0 (f:=g) (args:=(.agg vl.toArray::xs.map a.eval).toArray) (w':=w) ?_ ?_
    .have hrun:=hspec.1 (.agg vl.toArray::xs.map a.eval).toArray w;have hmm:=hm w (.agg vl.toArray);have e1:(#[Value.iface T (.agg vl.toArray)]++(Array.map a.eval ⟨xs⟩)).extract 1 (#[Value.iface T (.agg vl.toArray)]++(Array.map a.eval ⟨xs⟩)).size=(xs.map a.eval).toArray:=by
      apply Array.toList_inj.1;simp;exact List.take_of_length_le (by simp)
     have e2:(#[Value.agg vl.toArray]++(xs.map a.eval).toArray)=(.agg vl.toArray::xs.map a.eval).toArray:=by
      apply Array.toList_inj.1;simp
     have e3:(#[Value.iface T (.agg vl.toArray)]++(Array.map a.eval ⟨xs⟩))[0]? =some (Value.iface T (.agg vl.toArray)):=by simp
     simp only[execOp,ho,resolve,hrv,Sem.run_bind,Sem.run_pure,Result.andThen_ok,invoke,e3,e1,callMethod,run_program,hmm,e2];exact hrun
    .refine Calls.mono hc fun e w' ⟨x,he,hd,hb⟩=>⟨x,he,?_⟩;obtain⟨K,st'⟩:=st.grow hb;refine⟨bs,st',?_,fun p hp=>by rw[hr]at hp;simp at hp⟩;have K2:Keeps w' (fun b=>Stay w0 I0 mem bs w b\/(w.heap.size<=b/\b<w'.heap.size)) noBs noMem w' (Stay w0 I0 mem bs w') bs mem (fun _=>False):=
      ⟨fun b hbb=>⟨Zc3 hb st b hbb,rfl⟩,fun _ _ h=>h.elim,fun _ _ _ _ _ _ h=>h.elim⟩
     exact K2.av (fun p hp=>by rw[hr]at hp;simp at hp) hd
  .rw[e];trivial
 .trivial
def planNilCheck(env:Env)(x:Operand):Plan:=
 match opd env x with
 | .val (.one (.ref cs))=>.ret (.val (.one (.ref cs)))
 | .val (.one (.ptr o i))=>.ret (.val (.one (.ptr o i)))
 |_=>.bad
theorem Zfr(st:St w0 I0 nt env mem bs a w)(hE:∀t,env' t= .junk\/env' t=env t)(o:Oper)(x:Operand)(ho:o.op= .nilCheck x):SoundPlan P w0 I0 nt env mem a w o (planNilCheck env' x):=by
 obtain⟨h1,h1h⟩:=Zc st hE x;unfold planNilCheck;split
 .rename_i cs hx;rw[hx]at h1;have h2:=h1;obtain⟨b,off,_,ex,_⟩:=h2;refine Za (a.eval x) ?_ (Zf st h1 (fun p hp=>by simp[AV.hs,S.hs,C.hs]at hp));simp[execOp,ho,ex]
 .rename_i q i hx;rw[hx]at h1 h1h;have h2:=h1;obtain⟨b,_,ex⟩:=h2;refine Za (a.eval x) ?_ (Zf st h1 h1h);simp[execOp,ho,ex]
 .trivial
def refsK{β:Type}(env:Env):List Operand->(List (List D)->β)->β->β
 | [],k,_=>k []
 |x::r,k,bad=>match opd env x with
  | .val (.one (.ref cs))=>refsK env r (fun l=>k (cs::l)) bad
  |_=>bad
theorem ZfR{β:Type}(st:St w0 I0 nt env mem bs a w)(hE:∀t,env' t= .junk\/env' t=env t):∀(xs:List Operand)(k:List (List D)->β)(bad:β),
  (∃css,refsK env' xs k bad=k css/\Rel2 (fun y cs=>DenC w (Stay w0 I0 mem bs w) bs mem y (.ref cs)) (xs.map a.eval) css)\/refsK env' xs k bad=bad
 | [],k,bad=>.inl ⟨[],rfl,Rel2.nil⟩
 |x::r,k,bad=>by
  obtain⟨h1,_⟩:=Zc st hE x;unfold refsK;split
  .rename_i cs hx;rw[hx]at h1;rcases ZfR st hE r (fun l=>k (cs::l)) bad with ⟨css,e,h2⟩|e
   .exact .inl ⟨cs::css,e,h2.cons h1⟩
   .exact .inr e
  .exact .inr rfl
theorem Zzb{I:Nat->Prop}:∀{ys:List Value}{caps:List (List D)},Rel2 (fun y cs=>DenC w I bs mem y (.ref cs)) ys caps->
  ∃(pb po:Nat->Nat)(c:Nat->Nat->Value),ys=(List.range caps.length).map (fun i=>Value.pointer (some ⟨pb i,po i,none⟩))/\(∀i,i<caps.length->I (pb i))/\
   (∀(i j:Nat)(r:List D),caps[i]? =some r->j<r.length->w.cell? ⟨pb i,po i+j,none⟩=some (c i j))/\∀(i j:Nat)(r:List D)(d:D),caps[i]? =some r->r[j]? =some d->Den w I (c i j) d:=by
 intro ys caps h;have hv:∀i,∃(b off:Nat)(c:Nat->Value),i<caps.length->(ys[i]? =some (.pointer (some ⟨b,off,none⟩))/\I b/\∀(r:List D),caps[i]? =some r->(∀j,j<r.length->w.cell? ⟨b,off+j,none⟩=some (c j))/\∀(j:Nat)(d:D),r[j]? =some d->Den w I (c j) d):=by
  intro i;by_cases hi:i<caps.length
  .obtain⟨y,hy,b,off,hb,rfl,hcs⟩:=h.get (gE hi);refine⟨b,off,fun j=>(w.cell? ⟨b,off+j,none⟩).getD undef,fun _=>⟨hy,hb,fun r hr=>?_⟩⟩;rw[gE hi]at hr;obtain rfl:=sI hr;refine⟨fun j hj=>?_,fun j d hd=>?_⟩
   .obtain⟨z,hz,_⟩:=hcs j _ (gE hj);show w.cell? _=some ((w.cell? ⟨b,off+j,none⟩).getD undef);rw[hz];rfl
   .obtain⟨z,hz,hd'⟩:=hcs j d hd;show Den w I ((w.cell? ⟨b,off+j,none⟩).getD undef) d;rw[hz];exact hd'
  .exact⟨0,0,fun _=>undef,fun h=>absurd h hi⟩
 refine⟨fun i=>(hv i).choose,fun i=>(hv i).choose_spec.choose,fun i=>(hv i).choose_spec.choose_spec.choose,?_,fun i hi=>?_,fun i j r hr hj=>?_,fun i j r d hr hd=>?_⟩
 .refine List.ext_getElem? fun i=>?_;by_cases hi:i<caps.length
  .rw[getElem?_map,List.getElem?_range hi];exact((hv i).choose_spec.choose_spec.choose_spec hi).1
  .rw[List.getElem?_eq_none (by rw[h.1];omega),List.getElem?_eq_none (by simp;omega)]
 .exact((hv i).choose_spec.choose_spec.choose_spec hi).2.1
 .exact(((hv i).choose_spec.choose_spec.choose_spec (gS hr).1).2.2 r hr).1 j hj
 .exact(((hv i).choose_spec.choose_spec.choose_spec (gS hr).1).2.2 r hr).2 j d hd
def planMakeFunc(env:Env)(fn:Fn)(first caps:List Operand):Plan:=
 match fn with
 | .func g=>match first with
  | []=>refsK env caps (fun css=>.ret (.val (.one (.d (.fn g css))))) .bad
  |_=>.bad
 |_=>.bad
theorem Zfs(st:St w0 I0 nt env mem bs a w)(hE:∀t,env' t= .junk\/env' t=env t)(o:Oper)(fn:Fn)(first caps:Array Operand)(ho:o.op= .makeFunc fn first caps):
  SoundPlan P w0 I0 nt env mem a w o (planMakeFunc env' fn first.toList caps.toList):=by
 unfold planMakeFunc;split
 .rename_i g;split
  .rename_i hf;have hf':first=#[]:=by cases first;simpa using hf
   rcases ZfR st hE caps.toList (fun css=>Plan.ret (.val (.one (.d (.fn g css))))) Plan.bad with ⟨css,e,hr⟩|e
   .rw[e];obtain⟨pb,po,c,e1,h1,h2,h3⟩:=Zzb (w:=w) (bs:=bs) (mem:=mem) hr;refine Za (.func (.func g) #[] (caps.toList.map a.eval).toArray) ?_ (Zf st ?_ (fun p hp=>by simp[AV.hs,S.hs,C.hs]at hp))
    .have e2:(caps.toList.map a.eval).toArray=caps.map a.eval:=by apply Array.toList_inj.1;simp
     rw[e2];simp[execOp,ho,hf',Instr.makeFunc]
    .rw[e1];exact Den.fn g css pb po c h1 h2 h3
   .rw[e];trivial
  .trivial
 .trivial
end
section
variable{P:Program}{G:World->Prop}{w0:Base}{I0:Nat->Prop}{nt:Shape}{env env':Env}{mem mem':Mem}{bs:Bs}{a:Act}{w:World}
def Base.less(w:World)(x:Value):Base:=⟨w,fun b=>b<w.heap.size/\blk x≠some b,fun _ h=>h.1,fun _=>x⟩
def memT(T n:Nat)(xs:List (List D)):Mem:=fun o=>bif Nat.beq o 1000 then .row T n 0 xs true else .gone
def argTs{β:Type}(env:Env)(mem:Mem)(d v:Nat):List Operand->(List AV->β)->β->β
 | [],k,_=>k []
 |x::r,k,bad=>match opd env x with
  | .val (.one (.row o v'))=>bif Nat.beq o d&&Nat.beq v' v then argTs env mem d v r (fun l=>k (.val (.one (.row 1000 0))::l)) bad else bad
  |y=>argAVa true mem y (fun z=>argTs env mem d v r (fun l=>k (z::l)) bad) bad
theorem ZcV{β:Type}(st:St w0 I0 nt env mem bs a w)(hE:∀t,env' t= .junk\/env' t=env t)(hM:∀o,mem' o= .gone\/mem' o=mem o){d v T n:Nat}{xs:List (List D)}(hd:mem d= .row T n v xs true):∀(l:List Operand)(k:List AV->β)(bad:β),
  (∃az,argTs env' mem' d v l k bad=k az/\Rel2 (fun y av=>DenAV w (Stay w0 I0 mem bs w) (fun _=>bs d) (memT T n xs) y av) (l.map a.eval) az)\/argTs env' mem' d v l k bad=bad
 | [],k,bad=>.inl ⟨[],rfl,Rel2.nil⟩
 |x::r,k,bad=>by
  obtain⟨h1,_⟩:=Zc st hE x;unfold argTs;split
  .rename_i o v' hx;rw[hx]at h1
   cases hc:(Nat.beq o d&&Nat.beq v' v) with
   |false=>exact .inr rfl
   |true=>
    simp only[Bool.and_eq_true]at hc;obtain rfl:=Nat.eq_of_beq_eq_true hc.1;obtain rfl:=Nat.eq_of_beq_eq_true hc.2;simp only[cond_true];rcases ZcV st hE hM hd r (fun l=>k (.val (.one (.row 1000 0))::l)) bad with ⟨az,e,f2⟩|e
    .refine .inl ⟨_,e,f2.cons ?_⟩;have hv:a.eval x=bs o:=h1.2 _ _ _ _ hd;exact⟨h1.1,fun T' n' xs' own' hm=>hv⟩
    .exact .inr e
  .rcases Zbq true st hM (opd env' x) (fun z=>argTs env' mem' d v r (fun l=>k (z::l)) bad) bad with ⟨z,e,g1,g2⟩|e
   .rcases ZcV st hE hM hd r (fun l=>k (z::l)) bad with ⟨az,e',f2⟩|e'
    .exact .inl ⟨z::az,by rw[e,e'],f2.cons (g2 _ _ _ h1)⟩
    .exact .inr (by rw[e,e'])
   .exact .inr e
end
section
variable{P:Program}{G:World->Prop}{w0:Base}{I0:Nat->Prop}{nt:Shape}{env env':Env}{mem mem':Mem}{bs:Bs}{a:Act}{w:World}
def SpecS(P:Program)(G:World->Prop)(f:FuncId)(args:List AV)(T n:Nat)(xs:List (List D))(r:AV)(ys:List (List D)):Prop:=
 Enters P f/\∀(w:World)(I:Nat->Prop)(vs:List Value)(x:Value),(∀w',Bel (Base.less w x).K w w'->G w')->(∀b,I b->b<w.heap.size/\blk x≠some b)->
  ObOk (Base.less w x) w I noBs noMem x (.row T n 0 xs true)->Rel2 (fun y av=>DenAV w I (fun _=>x) (memT T n xs) y av) vs args->
  Calls P f vs.toArray w fun e w'=>∃y,e= .returned y/\DenAV w' (fun b=>(I b\/(¬(Base.less w x).K b/\b<w'.heap.size))/\blk x≠some b) noBs noMem y r/\
   ObOk (Base.less w x) w' (fun b=>(I b\/(¬(Base.less w x).K b/\b<w'.heap.size))/\blk x≠some b) noBs noMem x (.row T n 0 ys true)/\Bel (Base.less w x).K w w'
noncomputable def planCallS(P:Program)(G:World->Prop)(env:Env)(mem:Mem)(dst:Option Nat)(f:Operand)(xs:List Operand):Plan:=
 match ownArg env mem xs with
 |none=>planCallF true P G env mem dst f xs
 |some p=>match mem p.1 with
  | .row T n v ys true=>match opd env f with
   | .val (.one (.d (.v (.func (.func g) first cap))))=>match first.toList,cap.toList with
    | [], []=>argTs env mem p.1 v xs (fun az=>.askS p.1 T n v (fun r zs=>r.hs= []/\SpecS P G g az T n ys r zs)) .bad
    |_,_=>.bad
   |_=>.bad
  |_=>.bad
theorem Zjq(hG:∀w',Bel w0.K w w'->G w')(st:St w0 I0 nt env mem bs a w)(hE:∀t,env' t= .junk\/env' t=env t)(hM:∀o,mem' o= .gone\/mem' o=mem o)
 (o:Oper)(dst:Option Nat)(f:Operand)(xs:List Operand)(ts:Array TypeId)(ho:o.op= .call { callee:=.value f,args:=⟨xs⟩,argTypes:=ts })(hD:∀d,dst=some d->mem' d=mem d):SoundPlan P w0 I0 nt env mem a w o (planCallS P G env' mem' dst f xs):=by
 obtain⟨h1,_⟩:=Zc st hE f;unfold planCallS;split
 .exact ZcH true (hG w (Bel.refl _ _)) st hE hM o dst f xs ts ho hD
 .rename_i p hp;split
  .rename_i T n v ys hm';have hm:mem p.1= .row T n v ys true:=by
    rcases hM p.1 with h|h
    .rw[h]at hm';simp at hm'
    .rw[<-h];exact hm'
   split
   .rename_i g first cap hf
    rw[hf]at h1;have ef:=Zj h1;split
    .rename_i e1 e2;have e1':first=#[]:=by cases first;simpa using e1
     have e2':cap=#[]:=by cases cap;simpa using e2
     subst e1' e2';rcases ZcV st hE hM hm xs (fun az=>Plan.askS p.1 T n v (fun r zs=>r.hs= []/\SpecS P G g az T n ys r zs)) Plan.bad with ⟨az,e,hl⟩|e
     .rw[e];intro r zs _ ⟨hrh,hspec⟩;have hob:=st.obs p.1;rw[hm]at hob;have hmut:(mem p.1).mut=true:=by rw[hm];rfl
      have hstay:∀b,Stay w0 I0 mem bs w b->b<w.heap.size/\blk (bs p.1)≠some b:=by
       intro b hb;rcases hb with ⟨g1,g2⟩|⟨g1,g2,g3⟩
       .exact⟨st.ltK g2,fun hb=>(hob.block rfl b hb).1 g2⟩
       .exact⟨g2,g3 p.1 hmut⟩
      have hKK:∀b,w0.K b->(Base.less w (bs p.1)).K b:=fun b hb=>⟨st.ltK hb,fun h=>(hob.block rfl b h).1 hb⟩;obtain⟨cs,hown,hn,hcl,hrow,hden⟩:=hob;have hown2:ownsK (Base.less w (bs p.1)).K w T n (bs p.1) ys.length cs:=Zbd hown.row fun k hk=>fun h=>h.2 (by
       rcases hown.2 with ⟨e3,_⟩|⟨g',cap',cur',e3,_⟩
       .rw[e3]at hk;simp[Value.ownBlock]at hk
       .rw[e3]at hk⊢;simpa[blk,Value.ownBlock]using hk)
      have hc:=hspec.2 w (Stay w0 I0 mem bs w) (xs.map a.eval) (bs p.1) (fun w' hb=>hG w' ⟨hb.os,hb.tape,hb.output,hb.size,fun k hk=>hb.block k (hKK k hk)⟩) hstay
       ⟨cs,hown2,hn,hcl,hrow,hden⟩ hl
      refine Za0 (f:=g) (args:=(xs.map a.eval).toArray) (w':=w) ?_ ?_
      .have hrun:=hspec.1 (xs.map a.eval).toArray w;simp only[execOp,ho,resolve,ef,Deferred.ofValue,Sem.run_bind,Sem.run_pure,Result.andThen_ok,invoke];simpa using hrun
      .refine Calls.mono hc fun e w' ⟨y,he,hy,⟨ds,hown',hn',hdl,hrow',hden'⟩,hb⟩=>⟨y,he,?_⟩;have hb0:Bel w0.K w w':=⟨hb.os,hb.tape,hb.output,hb.size,fun k hk=>hb.block k (hKK k hk)⟩;have hk:∀k,k<w.heap.size->((mem p.1).mut=true->blk (bs p.1)≠some k)->w'.heap[k]? =w.heap[k]? :=fun k hk hne=>hb.block k ⟨hk,hne hmut⟩;have hx:∀b,(Ob.row T n v zs true).mut=true->blk (bs p.1)=some b->((mem p.1).mut=true/\blk (bs p.1)=some b)\/(w.heap.size<=b/\b<w'.heap.size):=fun b _ hby=>.inl ⟨hmut,hby⟩;have hv:Turns mem bs p.1 (.row T n v zs true) (bs p.1):=.inr (.inr (.inl ⟨T,n,v,ys,true,T,n,v,zs,true,hm,rfl,Nat.le_refl _,fun _=>⟨rfl,rfl⟩⟩));have eb:upd bs p.1 (bs p.1)=bs:=ZcY _ _;have K:=st.keeps p.1 (.row T n v zs true) (bs p.1) hb0 hk hx hv;rw[eb]at K;have hst:∀b,(Stay w0 I0 mem bs w b\/(¬(Base.less w (bs p.1)).K b/\b<w'.heap.size))/\blk (bs p.1)≠some b->Stay w0 I0 (upd mem p.1 (.row T n v zs true)) bs w' b:=by
        rintro b ⟨h|⟨h1,h2⟩,hne⟩
        .exact(K.stay b h).1
        .refine .inr ⟨fun hk0=>h1 (hKK b hk0),h2,fun o' hm' hbo=>?_⟩;by_cases e5:o'=p.1
         .subst e5;exact hne hbo
         .rw[ZQ _ _ e5]at hm';have hlt:=((st.obs o').block hm' b hbo).2;exact h1 ⟨hlt,hne⟩
       have st':=st.update p.1 (.row T n v zs true) (bs p.1) hb0 hk hx hv rfl (fun q hq=>by simp[Ob.hs]at hq) (by
        refine⟨ds,Zbd hown'.row fun k hk0=>fun hk1=>hown'.not hk0 (hKK k hk1),hn',hdl,hrow',fun i j r d hi hj=>?_⟩;obtain⟨z,hz,hd⟩:=hden' i j r d hi hj;exact⟨z,hz,Den.mono (fun b hb'=>⟨by rw[eb];exact hst b hb',rfl⟩) hd⟩)
       rw[eb]at st';have K2:Keeps w' (fun b=>(Stay w0 I0 mem bs w b\/(¬(Base.less w (bs p.1)).K b/\b<w'.heap.size))/\blk (bs p.1)≠some b) noBs noMem w' (Stay w0 I0 (upd mem p.1 (.row T n v zs true)) bs w') bs (upd mem p.1 (.row T n v zs true)) (fun _=>False):=⟨fun b hb=>⟨hst b hb,rfl⟩,fun _ _ h=>h.elim,fun _ _ _ _ _ _ h=>h.elim⟩;exact⟨bs,st',K2.av (fun o ho=>by rw[hrh]at ho;simp at ho) hy,fun q hq=>by rw[hrh]at hq;simp at hq⟩
     .rw[e];trivial
    .trivial
   .trivial
  .trivial
def memV(T:Nat)(cs:List D):Mem:=fun o=>bif Nat.beq o 1000 then .var T (cs.map C.d) else .gone
def SpecV(P:Program)(G:World->Prop)(f:FuncId)(args:List AV)(T:Nat)(cs:List D)(r:AV)(ds:List D):Prop:=
 Enters P f/\∀(w:World)(I:Nat->Prop)(vs:List Value)(x:Value),(∀w',Bel (Base.less w x).K w w'->G w')->(∀b,I b->b<w.heap.size/\blk x≠some b)->
  ObOk (Base.less w x) w I noBs noMem x (.var T (cs.map C.d))->Rel2 (fun y av=>DenAV w I (fun _=>x) (memV T cs) y av) vs args->
  Calls P f vs.toArray w fun e w'=>∃y,e= .returned y/\DenAV w' (fun b=>(I b\/(¬(Base.less w x).K b/\b<w'.heap.size))/\blk x≠some b) noBs noMem y r/\
   ObOk (Base.less w x) w' (fun b=>(I b\/(¬(Base.less w x).K b/\b<w'.heap.size))/\blk x≠some b) noBs noMem x (.var T (ds.map C.d))/\Bel (Base.less w x).K w w'
def dCs:List C->Option (List D)
 | []=>some []
 | .d x::r=>match dCs r with
  |some l=>some (x::l)
  |none=>none
 |_::_=>none
theorem ZvC:∀{cs:List C}{ds:List D},dCs cs=some ds->cs=ds.map C.d
 | [],ds,h=>by simp[dCs]at h;subst h;rfl
 | .d x::r,ds,h=>by
  unfold dCs at h;split at h
  .rename_i l hl;obtain rfl:=sI h;rw[ZvC hl];rfl
  .simp at h
 | .row _ _::_,_,h=>by simp[dCs]at h
 | .ptr _ _::_,_,h=>by simp[dCs]at h
 | .ref _::_,_,h=>by simp[dCs]at h
 | .full _::_,_,h=>by simp[dCs]at h
 | .rp _ _ _ _ _::_,_,h=>by simp[dCs]at h
 | .rs _ _ _ _::_,_,h=>by simp[dCs]at h
 | .mp _::_,_,h=>by simp[dCs]at h
def ptrArg(env:Env):List Operand->Option Nat
 | []=>none
 |x::r=>match opd env x with
  | .val (.one (.ptr o 0))=>some o
  |_=>ptrArg env r
def argPs{β:Type}(env:Env)(mem:Mem)(d:Nat):List Operand->(List AV->β)->β->β
 | [],k,_=>k []
 |x::r,k,bad=>match opd env x with
  | .val (.one (.ptr o 0))=>bif Nat.beq o d then argPs env mem d r (fun l=>k (.val (.one (.ptr 1000 0))::l)) bad else bad
  |y=>argAVa true mem y (fun z=>argPs env mem d r (fun l=>k (z::l)) bad) bad
theorem ZcW{β:Type}(st:St w0 I0 nt env mem bs a w)(hE:∀t,env' t= .junk\/env' t=env t)(hM:∀o,mem' o= .gone\/mem' o=mem o){d T:Nat}{cs:List D}:∀(l:List Operand)(k:List AV->β)(bad:β),
  (∃az,argPs env' mem' d l k bad=k az/\Rel2 (fun y av=>DenAV w (Stay w0 I0 mem bs w) (fun _=>bs d) (memV T cs) y av) (l.map a.eval) az)\/argPs env' mem' d l k bad=bad
 | [],k,bad=>.inl ⟨[],rfl,Rel2.nil⟩
 |x::r,k,bad=>by
  obtain⟨h1,_⟩:=Zc st hE x;unfold argPs;split
  .rename_i o hx;rw[hx]at h1
   cases hc:Nat.beq o d with
   |false=>exact .inr rfl
   |true=>
    obtain rfl:=Nat.eq_of_beq_eq_true hc;simp only[cond_true];rcases ZcW st hE hM r (fun l=>k (.val (.one (.ptr 1000 0))::l)) bad with ⟨az,e,f2⟩|e
    .exact .inl ⟨_,e,f2.cons h1⟩
    .exact .inr e
  .rcases Zbq true st hM (opd env' x) (fun z=>argPs env' mem' d r (fun l=>k (z::l)) bad) bad with ⟨z,e,g1,g2⟩|e
   .rcases ZcW st hE hM r (fun l=>k (z::l)) bad with ⟨az,e',f2⟩|e'
    .exact .inl ⟨z::az,by rw[e,e'],f2.cons (g2 _ _ _ h1)⟩
    .exact .inr (by rw[e,e'])
   .exact .inr e
noncomputable def planCallV(P:Program)(G:World->Prop)(env:Env)(mem:Mem)(_dst:Option Nat)(f:Operand)(xs:List Operand):Plan:=
 match ptrArg env xs with
 |none=>.bad
 |some o=>match mem o with
  | .var T cs=>match dCs cs with
   |some ds=>match opd env f with
    | .val (.one (.d (.v (.func (.func g) first cap))))=>match first.toList,cap.toList with
     | [], []=>argPs env mem o xs (fun az=>.askV o T (fun r zs=>(r.hs= []/\ds.length=zs.length)/\SpecV P G g az T ds r zs)) .bad
     |_,_=>.bad
    |_=>.bad
   |none=>.bad
  |_=>.bad
theorem Zjp(hG:∀w',Bel w0.K w w'->G w')(st:St w0 I0 nt env mem bs a w)(hE:∀t,env' t= .junk\/env' t=env t)(hM:∀o,mem' o= .gone\/mem' o=mem o)
 (o:Oper)(dst:Option Nat)(f:Operand)(xs:List Operand)(ts:Array TypeId)(ho:o.op= .call { callee:=.value f,args:=⟨xs⟩,argTypes:=ts }):SoundPlan P w0 I0 nt env mem a w o (planCallV P G env' mem' dst f xs):=by
 obtain⟨h1,_⟩:=Zc st hE f;unfold planCallV;split
 .trivial
 .rename_i q hp;split
  .rename_i T cs0 hm';split
   .rename_i cs hcs;obtain rfl:=ZvC hcs;have hm:mem q= .var T (cs.map C.d):=by
     rcases hM q with h|h
     .rw[h]at hm';simp at hm'
     .rw[<-h];exact hm'
    split
    .rename_i g first cap hf
     rw[hf]at h1;have ef:=Zj h1;split
     .rename_i e1 e2;have e1':first=#[]:=by cases first;simpa using e1
      have e2':cap=#[]:=by cases cap;simpa using e2
      subst e1' e2';rcases ZcW (T:=T) (cs:=cs) st hE hM xs (fun az=>Plan.askV q T (fun r zs=>(r.hs= []/\cs.length=zs.length)/\SpecV P G g az T cs r zs)) Plan.bad with ⟨az,e,hl⟩|e
      .rw[e];intro r zs _ ⟨⟨hrh,hlen⟩,hspec⟩;have hob:=st.obs q;rw[hm]at hob;have hmut:(mem q).mut=true:=by rw[hm];rfl
       have hstay:∀b,Stay w0 I0 mem bs w b->b<w.heap.size/\blk (bs q)≠some b:=by
        intro b hb;rcases hb with ⟨g1,g2⟩|⟨g1,g2,g3⟩
        .exact⟨st.ltK g2,fun hb=>(hob.block rfl b hb).1 g2⟩
        .exact⟨g2,g3 q hmut⟩
       have hKK:∀b,w0.K b->(Base.less w (bs q)).K b:=fun b hb=>⟨st.ltK hb,fun h=>(hob.block rfl b h).1 hb⟩;obtain⟨b0,l,hbq,hnk,hrow,hll,hden⟩:=hob;have hnk2:¬(Base.less w (bs q)).K b0:=fun h=>h.2 (by rw[hbq];rfl);have hc:=hspec.2 w (Stay w0 I0 mem bs w) (xs.map a.eval) (bs q) (fun w' hb=>hG w' ⟨hb.os,hb.tape,hb.output,hb.size,fun k hk=>hb.block k (hKK k hk)⟩) hstay
        ⟨b0,l,hbq,hnk2,hrow,hll,fun j c y hj hy=>by
         have:=hden j c y hj hy;rw[getElem?_map]at hj
         cases hd:cs[j]? with
         |none=>rw[hd]at hj;simp at hj
         |some d=>rw[hd]at hj;obtain rfl:=sI hj;exact this⟩ hl
       refine Za0 (f:=g) (args:=(xs.map a.eval).toArray) (w':=w) ?_ ?_
       .have hrun:=hspec.1 (xs.map a.eval).toArray w;simp only[execOp,ho,resolve,ef,Deferred.ofValue,Sem.run_bind,Sem.run_pure,Result.andThen_ok,invoke];simpa using hrun
       .refine Calls.mono hc fun e w' ⟨y,he,hy,⟨b1,l1,hb1,hnk1,hrow1,hll1,hden1⟩,hb⟩=>⟨y,he,?_⟩;have hb0:Bel w0.K w w':=⟨hb.os,hb.tape,hb.output,hb.size,fun k hk=>hb.block k (hKK k hk)⟩;have hk:∀k,k<w.heap.size->((mem q).mut=true->blk (bs q)≠some k)->w'.heap[k]? =w.heap[k]? :=fun k hk hne=>hb.block k ⟨hk,hne hmut⟩;have hx:∀b,(Ob.var T (zs.map C.d)).mut=true->blk (bs q)=some b->((mem q).mut=true/\blk (bs q)=some b)\/(w.heap.size<=b/\b<w'.heap.size):=fun b _ hby=>.inl ⟨hmut,hby⟩;have hv:Turns mem bs q (.var T (zs.map C.d)) (bs q):=.inr (.inl ⟨rfl,T,T,cs.map C.d,zs.map C.d,hm,rfl⟩);have eb:upd bs q (bs q)=bs:=ZcY _ _;have K:=st.keeps q (.var T (zs.map C.d)) (bs q) hb0 hk hx hv;rw[eb]at K;have hst:∀b,(Stay w0 I0 mem bs w b\/(¬(Base.less w (bs q)).K b/\b<w'.heap.size))/\blk (bs q)≠some b->Stay w0 I0 (upd mem q (.var T (zs.map C.d))) bs w' b:=by
         rintro b ⟨h|⟨h1,h2⟩,hne⟩
         .exact(K.stay b h).1
         .refine .inr ⟨fun hk0=>h1 (hKK b hk0),h2,fun o' hm' hbo=>?_⟩;by_cases e5:o'=q
          .subst e5;exact hne hbo
          .rw[ZQ _ _ e5]at hm';have hlt:=((st.obs o').block hm' b hbo).2;exact h1 ⟨hlt,hne⟩
        have hzh:∀p,p∈(Ob.var T (zs.map C.d)).hs->False:=fun p hp=>by
         simp only[Ob.hs,List.mem_flatMap,List.mem_map]at hp;obtain⟨c,⟨d,_,rfl⟩,hp⟩:=hp;simp[C.hs]at hp
        have st':=st.update q (.var T (zs.map C.d)) (bs q) hb0 hk hx hv rfl (fun p hp=>(hzh p hp).elim) (by
         refine⟨b1,l1,hb1,fun h=>?_,hrow1,hll1,fun j c y hj hy=>?_⟩
         .rw[hb1]at hbq;have:b1=b0:=by
           have:=Value.pointer.inj hbq;have:=sI this;exact congrArg Addr.block this
          subst this;exact hnk h
         .have hd:=hden1 j c y hj hy;rw[getElem?_map]at hj
          cases hz:zs[j]? with
          |none=>rw[hz]at hj;simp at hj
          |some d=>
           rw[hz]at hj;obtain rfl:=sI hj;exact Den.mono (fun b hb'=>⟨by rw[eb];exact hst b hb',rfl⟩) hd)
        rw[eb]at st';have K2:Keeps w' (fun b=>(Stay w0 I0 mem bs w b\/(¬(Base.less w (bs q)).K b/\b<w'.heap.size))/\blk (bs q)≠some b) noBs noMem w' (Stay w0 I0 (upd mem q (.var T (zs.map C.d))) bs w') bs (upd mem q (.var T (zs.map C.d))) (fun _=>False):=⟨fun b hb=>⟨hst b hb,rfl⟩,fun _ _ h=>h.elim,fun _ _ _ _ _ _ h=>h.elim⟩;exact⟨bs,st',K2.av (fun o ho=>by rw[hrh]at ho;simp at ho) hy,fun q hq=>by rw[hrh]at hq;simp at hq⟩
      .rw[e];trivial
     .trivial
    .trivial
   .trivial
  .trivial
end
theorem St.drew{w0:Base}{I0:Nat->Prop}{nt:Shape}{env:Env}{mem:Mem}{bs:Bs}{a:Act}{w:World}(st:St w0 I0 nt env mem bs a w):St w0 I0 nt env mem bs a { w with drawn:=w.drawn+1 }:=
 (st.grow (w':={ w with drawn:=w.drawn+1 }) ((Below.refl _ w).drew)).2
section
variable{P:Program}{w0:Base}{I0:Nat->Prop}{nt:Shape}{env env':Env}{mem mem':Mem}{bs:Bs}{a:Act}{w:World}
def fitsV:Value->Bool
 | .agg l=>l.toList.all flat
 |x=>flat x
def sOf:Value->S
 | .agg l=>.agg (l.toList.map fun y=>.d (.v y))
 |x=>.one (.d (.v x))
theorem ZuU(x:Value):(sOf x).hs= []:=by
 cases x<;>simp[sOf,S.hs,C.hs]
theorem ZoN{I:Nat->Prop}{x:Value}(h:fitsV x=true):DenS w I bs mem x (sOf x):=by
 have one:∀y:Value,flat y=true->DenC w I bs mem y (.d (.v y)):=fun y hy=>Den.v y hy
 cases x with
 |agg l=>
  refine⟨l.toList,rfl,by simp,fun j c y hj hy=>?_⟩;rw[getElem?_map,hy]at hj;obtain rfl:=(sI hj).symm;exact one y (List.all_eq_true.1 h y (mG hy))
 |_=>first|exact one _ h|exact one _ rfl
theorem Zhh{o o':Obj}{b:Nat}(h:w.heap[b]? =some o):(Go.ChangeMaps.setBlock w b o').heap[b]? =some o':=by
 have hlt:b<w.heap.size:=(Array.getElem?_eq_some_iff.1 h).1;simp[Go.ChangeMaps.setBlock,hlt]
theorem Ze5{o':Obj}{b k:Nat}(h:k≠b):(Go.ChangeMaps.setBlock w b o').heap[k]? =w.heap[k]? :=by
 simp[Go.ChangeMaps.setBlock,Ne.symm h]
theorem Zy1:∀(l:List S),(∀x,x∈l->x.hs= [])->(AV.tup l).hs= []:=fun l h=>List.flatMap_eq_nil_iff.2 h
theorem Zq2(st:St w0 I0 nt env mem bs a w){o:Nat}{lk:Option Nat}{x:Obj}(hm:mem o= .ext lk x):
  ∃b bm,bs o= .pointer (some ⟨b,0,none⟩)/\¬w0.K b/\(∀m,lk=some m->bs m= .pointer (some ⟨bm,0,none⟩))/\w.heap[b]? =some (link x bm):=by
 have:=st.obs o;rw[hm]at this;exact this
theorem Zj6(st:St w0 I0 nt env mem bs a w){o b:Nat}{lk:Option Nat}{x x':Obj}{y:Obj}(hm:mem o= .ext lk x)(hb:bs o= .pointer (some ⟨b,0,none⟩))
 (hy:∃bm,(∀m,lk=some m->bs m= .pointer (some ⟨bm,0,none⟩))/\y=link x' bm):
  St w0 I0 nt env (upd mem o (.ext lk x')) (upd bs o (bs o)) a (Go.ChangeMaps.setBlock w b y)/\∀p,okh mem p->okh (upd mem o (.ext lk x')) p:=by
 obtain⟨b',bm',e1,hK,_,h4⟩:=Zq2 st hm;rw[hb]at e1;obtain rfl:b'=b:=by
  have:=Value.pointer.inj e1;have:=sI this;exact(congrArg Addr.block this).symm
 obtain⟨bm,hlk,rfl⟩:=hy;have hlt:b'<w.heap.size:=(Array.getElem?_eq_some_iff.1 h4).1;have hsz:(Go.ChangeMaps.setBlock w b' (link x' bm)).heap.size=w.heap.size:=by simp[Go.ChangeMaps.setBlock]
 have hbel:Bel w0.K w (Go.ChangeMaps.setBlock w b' (link x' bm)):=⟨rfl,rfl,rfl,by rw[hsz];exact Nat.le_refl _,fun k hk=>Ze5 (fun e=>hK (e▸hk))⟩;have hk:∀k,k<w.heap.size->((mem o).mut=true->blk (bs o)≠some k)->(Go.ChangeMaps.setBlock w b' (link x' bm)).heap[k]? =w.heap[k]? :=by
  intro k _ hh;refine Ze5 fun e=>?_;subst e;exact hh (by rw[hm];rfl) (by rw[hb];rfl)
 have hx:∀k,(Ob.ext lk x').mut=true->blk (bs o)=some k->((mem o).mut=true/\blk (bs o)=some k)\/(w.heap.size<=k/\k<(Go.ChangeMaps.setBlock w b' (link x' bm)).heap.size):=fun k _ hk=>.inl ⟨by rw[hm];rfl,hk⟩;have hv:Turns mem bs o (.ext lk x') (bs o):=.inr (.inr (.inr ⟨rfl,lk,x,lk,x',hm,rfl⟩));have hok:∀p,okh mem p->okh (upd mem o (.ext lk x')) p:=fun p hp=>hv.okh rfl hp;refine⟨st.update o (.ext lk x') (bs o) hbel hk hx hv rfl (fun p hp=>hok p (st.hmem o p (by rw[hm];exact hp))) ⟨b',bm,hb,hK,fun m hm'=>?_,Zhh h4⟩,hok⟩;by_cases e:m=o
 .subst e;rw[Zk];exact hlk m hm'
 .rw[ZQ _ _ e];exact hlk m hm'
theorem Zw6(st:St w0 I0 nt env mem bs a w){d bm:Nat}{lk:Option Nat}{x y:Obj}(hg:mem d= .gone)(hy:y=link x bm)(hlk:∀m,lk=some m->bs m= .pointer (some ⟨bm,0,none⟩)/\okh mem (m,0)):
  ∃bs',St w0 I0 nt env (upd mem d (.ext lk x)) bs' a (w.alloc y)/\bs' d= .pointer (some ⟨w.heap.size,0,none⟩)/\okh (upd mem d (.ext lk x)) (d,0):=by
 subst hy;have hb:Bel w0.K w (w.alloc (link x bm)):=st.bel ((Below.refl _ w).alloc (Nat.le_refl _) _);have hx:∀b,(Ob.ext lk x).mut=true->blk (.pointer (some ⟨w.heap.size,0,none⟩))=some b->((mem d).mut=true/\blk (bs d)=some b)\/(w.heap.size<=b/\b<(w.alloc (link x bm)).heap.size):=by
  intro b _ hbx;simp only[blk,Option.some.injEq]at hbx;subst hbx;exact .inr ⟨Nat.le_refl _,by simp⟩
 have hk:∀k,k<w.heap.size->((mem d).mut=true->blk (bs d)≠some k)->(w.alloc (link x bm)).heap[k]? =w.heap[k]? :=fun k hk _=>Below.heap_alloc _ _ _ hk;have hv:Turns mem bs d (.ext lk x) (.pointer (some ⟨w.heap.size,0,none⟩)):=.inl (by rw[hg];rfl);have hok:∀p,okh mem p->okh (upd mem d (.ext lk x)) p:=fun p hp=>hv.okh rfl hp;refine⟨upd bs d (.pointer (some ⟨w.heap.size,0,none⟩)),st.update d (.ext lk x) _ hb hk hx hv rfl ?_ ?_,Zk _ _ _,⟨by simp only[Zk];rfl,by simp only[Zk];exact Nat.zero_le _⟩⟩
 .intro p hp
  cases lk with
  |none=>simp[Ob.hs]at hp
  |some m=>
   have:p=(m,0):=by simpa[Ob.hs]using hp
   subst this;exact hok _ (hlk m rfl).2
 .refine⟨w.heap.size,bm,rfl,st.newK (Nat.le_refl _),fun m hm=>?_,heap_alloc_new w _⟩;have h1:=(hlk m hm).2.1;have hne:m≠d:=fun e=>by subst e;simp only[hg]at h1;simp[Ob.live]at h1
  rw[ZQ _ _ hne];exact(hlk m hm).1
theorem Zve(hM:∀o,mem' o= .gone\/mem' o=mem o){o:Nat}{lk:Option Nat}{x:Obj}(h:mem' o= .ext lk x):mem o= .ext lk x:=by
 rcases hM o with e|e
 .rw[e]at h;simp at h
 .rw[<-e];exact h
theorem den_undef'{I:Nat->Prop}:DenAV w I bs mem undef (.tup []):=⟨[],rfl,rfl,fun j s y hs=>by simp at hs⟩
def planMakeMap(mem:Mem)(dst:Option Nat)(n:Option Operand):Plan:=
 match n,dst with
 |none,some d=>match mem d with
  | .gone=>.put (.val (.one (.mp d))) d (.ext none (.map #[] 0))
  |_=>.bad
 |_,_=>.bad
theorem ZgB(st:St w0 I0 nt env mem bs a w)(o:Oper)(T:TypeId)(n:Option Operand)(ho:o.op= .makeMap T n)(hD:∀d,o.dst=some d->mem' d=mem d):SoundPlan P w0 I0 nt env mem a w o (planMakeMap mem' o.dst n):=by
 unfold planMakeMap;split
 .rename_i d hd;split
  .rename_i hg;rw[hD d hd]at hg;obtain⟨bs',st',hb,hok⟩:=Zw6 st (d:=d) (bm:=0) (lk:=none) (x:=.map #[] 0) (y:=.map #[] 0) hg rfl (fun m hm=>by simp at hm);refine Za (.map (some w.heap.size)) (w':=w.alloc (.map #[] 0)) ?_ ⟨bs',st',⟨w.heap.size,hb,rfl⟩,fun p hp=>?_⟩
   .simp[execOp,ho,Instr.makeMap,Result.andThen]
   .have:p=(d,0):=by simpa[AV.hs,S.hs,C.hs]using hp
    subst this;exact hok
  .trivial
 .trivial
def MapStep{α:Type}(P:Program)(i:Value->Sem α)(r:α)(x y:Obj):Prop:=∀(w:World)(b:Nat),w.heap[b]? =some x->(i (.map (some b))).run P w= .ok r (Go.ChangeMaps.setBlock w b y)
def planMapUpdate(P:Program)(env:Env)(mem:Mem)(T:TypeId)(m k v:Operand):Plan:=
 match opd env m with
 | .val (.one (.mp o))=>match mem o with
  | .ext none (.map es clock)=>valK (opd env k) (fun kv=>valK (opd env v) (fun vv=>.askE o none fun r y=>r= .tup []/\∃es' clock',y= .map es' clock'/\MapStep P (fun m=>Instr.mapUpdate T m kv vv) () (.map es clock) (.map es' clock')) .bad) .bad
  |_=>.bad
 |_=>.bad
theorem Zb4(st:St w0 I0 nt env mem bs a w)(hE:∀t,env' t= .junk\/env' t=env t)(hM:∀o,mem' o= .gone\/mem' o=mem o)(o:Oper)(T:TypeId)(m k v:Operand)(ho:o.op= .mapUpdate T m k v\/o.op= .insert T m k v):
  SoundPlan P w0 I0 nt env mem a w o (planMapUpdate P env' mem' T m k v):=by
 obtain⟨h1,h2⟩:=Zc st hE m;obtain⟨k1,_⟩:=Zc st hE k;obtain⟨v1,_⟩:=Zc st hE v;unfold planMapUpdate;split
 .rename_i q hx;rw[hx]at h1 h2;split
  .rename_i es clock hm;have hm':=Zve hM hm;rcases Zb2 (opd env' k) (fun kv=>valK (opd env' v) (fun vv=>Plan.askE q none fun r y=>r= .tup []/\∃es' clock',y= .map es' clock'/\MapStep P (fun m=>Instr.mapUpdate T m kv vv) () (.map es clock) (.map es' clock')) .bad) .bad with ⟨kv,e1,g1⟩|e1
   .rw[e1];rcases Zb2 (opd env' v) (fun vv=>Plan.askE q none fun r y=>r= .tup []/\∃es' clock',y= .map es' clock'/\MapStep P (fun m=>Instr.mapUpdate T m kv vv) () (.map es clock) (.map es' clock')) .bad with ⟨vv,e2,g2⟩|e2
    .rw[e2];intro r y ⟨hr,es',clock',hy,hs⟩;subst hr;subst hy;obtain⟨b,hb,ex⟩:=h1;obtain⟨b',bm,f1,f2,_,f4⟩:=Zq2 st hm';obtain rfl:b'=b:=by
      rw[hb]at f1;have:=Value.pointer.inj f1;have:=sI this;exact(congrArg Addr.block this).symm
     obtain⟨st',hok⟩:=Zj6 st (x':=.map es' clock') (y:=.map es' clock') hm' hb ⟨0,fun m hm=>by simp at hm,rfl⟩;refine Zfg (w':=Go.ChangeMaps.setBlock w b' (.map es' clock')) ?_ ⟨_,st',den_undef',fun p hp=>by simp[AV.hs]at hp⟩;have:=hs w b' f4;have ek:=g1 _ _ _ _ _ k1;have ev:=g2 _ _ _ _ _ v1;rcases ho with ho|ho<;>simp only[execOp,ho,ex,ek,ev,Sem.run_bind,this,Result.andThen_ok,Sem.run_pure]
    .rw[e2];trivial
   .rw[e1];trivial
  .trivial
 .trivial
end
section
variable{P:Program}{G:World->Prop}{w0:Base}{I0:Nat->Prop}{nt:Shape}{env env':Env}{mem mem':Mem}{bs:Bs}{a:Act}{w:World}
theorem Zpq{K:Nat->Prop}{e size n:Nat}{v:Value}{xs:List Value}(h:ownsK K w e size v n xs)(hn:0<n):
  ∃g cap cur,v= .slice (some ⟨g,0,none⟩) n cap/\¬K g/\w.heap[g]? =some (.cells cur e (0,0))/\n<=cap/\cap<=maxLen/\cur.size=cap*size/\cur.toList.take (n*size)=xs:=by
 rcases h.2 with ⟨_,h0⟩|h2
 .omega
 .exact h2
theorem Zps{K:Nat->Prop}{e size n:Nat}{v:Value}{xs:List Value}(h:ownsK K w e size v n xs){g m c:Nat}(e1:v= .slice (some ⟨g,0,none⟩) m c):∀(k:Nat)(y:Value),xs[k]? =some y->w.cell? ⟨g,k,none⟩=some y:=by
 have h1:=h.row.cells (g:=g) (by rw[e1];rfl);intro k y hk;have:=h1 k y hk
 rwa[Addr.add_lit,Nat.zero_add]at this
theorem Zpr{K:Nat->Prop}{I:Nat->Prop}{e n:Nat}{v:Value}{xs:List (List D)}{ys:List Value}(h:ownsK K w e n v xs.length ys)(hn:0<n)(hrow:∀r,r∈xs->r.length=n)(hI:∀b,blk v=some b->I b)
 (hd:∀(i j:Nat)(r:List D)(d:D),xs[i]? =some r->r[j]? =some d->∃y,ys[i*n+j]? =some y/\Den w I y d):Den w I v (.list xs):=by
 by_cases h0:xs.length=0
 .have:xs= []:=List.length_eq_zero_iff.1 h0;subst this;rcases h.2 with ⟨rfl,_⟩|⟨g,cap,cur,rfl,_⟩
  .exact Den.nil none 0
  .exact Den.nil _ _
 .obtain⟨g,cap,cur,hv,hb,hg,hle,hmax,hsz,htk⟩:=Zpq h ω;have hcl:=Zps h hv;have hyl:=h.1;rw[hv];refine Den.list g 0 cap n xs (fun i j=>ys.getD (i*n+j) undef) (hI g (by rw[hv];rfl)) hn hrow (fun i j hi hj=>?_) (fun i j r d hr hd'=>?_) hle
  .have hin:i*n+j<ys.length:=by
    have:(i+1)*n<=xs.length*n:=Nat.mul_le_mul_right _ hi;rw[Nat.add_mul,Nat.one_mul]at this;omega
   have:=hcl (i*n+j) ys[i*n+j] (gE hin);rw[show 0+i*n+j=i*n+j by omega,this];simp[getD,gE hin]
  .obtain⟨y,hy,hyd⟩:=hd i j r d hr hd';have e:ys.getD (i*n+j) undef=y:=by simp[getD,hy]
   rw[e];exact hyd
def LookIs(P:Program)(T:TypeId)(m:Option (Array MapEntry))(ok:Bool)(k v:Value)(found:Bool):Prop:=
 match m with
 |none=>∀w:World,(Instr.lookup T (.map none) k ok).run P w= .ok (bif ok then .tuple #[v,.bool found] else v) w
 |some es=>∀(w:World)(b clock:Nat),w.heap[b]? =some (.map es clock)->(Instr.lookup T (.map (some b)) k ok).run P w= .ok (bif ok then .tuple #[v,.bool found] else v) w
def mapOf(env:Env)(mem:Mem)(x:Operand):Option (Option (Array MapEntry)):=
 match opd env x with
 | .val (.one (.mp o))=>match mem o with
  | .ext none (.map es _)=>some (some es)
  |_=>none
 | .val (.one (.d (.map es _)))=>some (some es)
 | .val (.one (.d (.v (.map none))))=>some none
 |_=>none
theorem Ztj(st:St w0 I0 nt env mem bs a w)(hE:∀t,env' t= .junk\/env' t=env t)(hM:∀o,mem' o= .gone\/mem' o=mem o){x:Operand}{m:Option (Array MapEntry)}(h:mapOf env' mem' x=some m):
  (m=none/\a.eval x= .map none)\/∃es b clock,m=some es/\a.eval x= .map (some b)/\w.heap[b]? =some (.map es clock):=by
 obtain⟨h1,_⟩:=Zc st hE x;unfold mapOf at h;split at h
 .rename_i o hx;rw[hx]at h1;split at h
  .rename_i es clock hm;obtain rfl:=sI h;obtain⟨b,hb,ex⟩:=h1;obtain⟨b',bm,f1,f2,_,f4⟩:=Zq2 st (Zve hM hm);obtain rfl:b'=b:=by
    rw[hb]at f1;have:=Value.pointer.inj f1;have:=sI this;exact(congrArg Addr.block this).symm
   exact .inr ⟨es,b',clock,rfl,ex,f4⟩
  .simp at h
 .rename_i es clock hx;rw[hx]at h1;obtain rfl:=sI h;have h2:Den w (Stay w0 I0 mem bs w) (a.eval x) (.map es clock):=h1;generalize a.eval x=v at h2
  cases h2 with
  |map b _ _ hI hb=>exact .inr ⟨es,b,clock,rfl,rfl,hb⟩
 .rename_i hx;rw[hx]at h1;obtain rfl:=sI h;exact .inl ⟨rfl,Zj h1⟩
 .simp at h
def lookAV(ok:Bool)(v:Value)(found:Bool):AV:=bif ok then .tup [sOf v,.one (.d (.v (.bool found)))] else .val (sOf v)
def planLookup(P:Program)(env:Env)(mem:Mem)(T:TypeId)(x i:Operand)(ok:Bool):Plan:=
 match mapOf env mem x with
 |some m=>valK (opd env i) (fun k=>.ask fun r=>∃v found,fitsV v=true/\LookIs P T m ok k v found/\r=lookAV ok v found) .bad
 |none=>.bad
theorem ZhX(st:St w0 I0 nt env mem bs a w)(hE:∀t,env' t= .junk\/env' t=env t)(hM:∀o,mem' o= .gone\/mem' o=mem o)(o:Oper)(T:TypeId)(x i:Operand)(ok:Bool)(ho:o.op= .lookup T x i ok):
  SoundPlan P w0 I0 nt env mem a w o (planLookup P env' mem' T x i ok):=by
 obtain⟨k1,_⟩:=Zc st hE i;unfold planLookup;split
 .rename_i m hm;rcases Zb2 (opd env' i) (fun k=>Plan.ask fun r=>∃v found,fitsV v=true/\LookIs P T m ok k v found/\r=lookAV ok v found) .bad with ⟨kv,e1,g1⟩|e1
  .rw[e1];intro r ⟨v,found,hf,hl,hr⟩;subst hr;have ek:=g1 _ _ _ _ _ k1;have hrun:(Instr.lookup T (a.eval x) kv ok).run P w= .ok (bif ok then .tuple #[v,.bool found] else v) w:=by
    rcases Ztj st hE hM hm with ⟨rfl,ex⟩|⟨es,b,clock,rfl,ex,hb⟩
    .rw[ex];exact hl w
    .rw[ex];exact hl w b clock hb
   refine Za (bif ok then .tuple #[v,.bool found] else v) ?_ (Zf st ?_ (fun p hp=>?_))
   .simp only[execOp,ho,ek,Sem.run_bind,hrun,Result.andThen_ok,Sem.run_pure]
   .cases ok with
    |true=>
     refine⟨[v,.bool found],rfl,rfl,fun j s y hs hy=>?_⟩
     match j,hs,hy with
     |0,hs,hy=>
      obtain rfl:=(sI hs);obtain rfl:=(sI hy);exact ZoN hf
     |1,hs,hy=>
      obtain rfl:=(sI hs);obtain rfl:=(sI hy);exact Den.v _ rfl
     |j+2,hs,hy=>simp at hs
    |false=>exact ZoN hf
   .cases ok with
    |true=>
     have h0:(lookAV true v found).hs= []:=Zy1 _ fun s hs=>by
      rcases List.mem_cons.1 hs with rfl|hs
      .exact ZuU v
      .rw[List.mem_singleton.1 hs];rfl
     rw[h0]at hp;simp at hp
    |false=>
     have h0:(lookAV false v found).hs= []:=ZuU v;rw[h0]at hp;simp at hp
  .rw[e1];trivial
 .trivial
def flatC:C->Bool
 | .d (.v _)=>true
 |_=>false
def flatS:S->Bool
 | .one c=>flatC c
 | .agg cs=>cs.all flatC
def flatAV:AV->Bool
 | .val s=>flatS s
 | .tup l=>l.all flatS
 |_=>false
section
variable{I I':Nat->Prop}{bs':Bs}{mem'':Mem}{w':World}
theorem Ze9{x:Value}{c:C}(h:flatC c=true)(hd:DenC w I bs mem x c):DenC w' I' bs' mem'' x c/\c.hs= []:=by
 cases c with
 |d d=>cases d with
  |v y=>
   have hd:Den w I x (.v y):=hd
   cases hd with
   |v _ hx=>exact⟨Den.v _ hx,rfl⟩
  |_=>simp[flatC]at h
 |_=>simp[flatC]at h
theorem Ze8{x:Value}{s:S}(h:flatS s=true)(hd:DenS w I bs mem x s):DenS w' I' bs' mem'' x s/\s.hs= []:=by
 cases s with
 |one c=>exact Ze9 h hd
 |agg cs=>
  obtain⟨l,e,hl,hc⟩:=hd;have hf:∀c,c∈cs->flatC c=true:=List.all_eq_true.1 h;refine⟨⟨l,e,hl,fun j c y hj hy=>(Ze9 (hf c (mG hj)) (hc j c y hj hy)).1⟩,List.flatMap_eq_nil_iff.2 fun c hm=>?_⟩;obtain⟨j,hj⟩:=List.getElem?_of_mem hm;have hlt:j<l.length:=by rw[hl];exact(gS hj).1
  exact(Ze9 (w':=w) (I':=I) (bs':=bs) (mem'':=mem) (hf c hm) (hc j c _ hj (gE hlt))).2
theorem Zgd{x:Value}{r:AV}(h:flatAV r=true)(hd:DenAV w I bs mem x r):DenAV w' I' bs' mem'' x r/\r.hs= []:=by
 cases r with
 |val s=>exact Ze8 h hd
 |tup ss=>
  obtain⟨l,e,hl,hc⟩:=hd;have hf:∀c,c∈ss->flatS c=true:=List.all_eq_true.1 h;refine⟨⟨l,e,hl,fun j c y hj hy=>(Ze8 (hf c (mG hj)) (hc j c y hj hy)).1⟩,List.flatMap_eq_nil_iff.2 fun c hm=>?_⟩;obtain⟨j,hj⟩:=List.getElem?_of_mem hm;have hlt:j<l.length:=by rw[hl];exact(gS hj).1
  exact(Ze8 (w':=w) (I':=I) (bs':=bs) (mem'':=mem) (hf c hm) (hc j c _ hj (gE hlt))).2
 |junk=>simp[flatAV]at h
 |new _ _ _=>simp[flatAV]at h
end
def prefD:List C->List D
 | .d x::r=>x::prefD r
 |_=>[]
theorem Zie:∀{cs:List C}{j:Nat}{d:D},(prefD cs)[j]? =some d->cs[j]? =some (.d d)
 | [],j,d,h=>by simp[prefD]at h
 | .d x::r,0,d,h=>by simp[prefD]at h;subst h;rfl
 | .d x::r,j+1,d,h=>by simp only[prefD,List.getElem?_cons_succ]at h⊢;exact Zie h
 | .row _ _::_,j,d,h=>by simp[prefD]at h
 | .ptr _ _::_,j,d,h=>by simp[prefD]at h
 | .ref _::_,j,d,h=>by simp[prefD]at h
 | .full _::_,j,d,h=>by simp[prefD]at h
 | .rp _ _ _ _ _::_,j,d,h=>by simp[prefD]at h
 | .rs _ _ _ _::_,j,d,h=>by simp[prefD]at h
 | .mp _::_,j,d,h=>by simp[prefD]at h
def argPr{β:Type}(env:Env)(mem:Mem):List Operand->(List AV->β)->β->β
 | [],k,_=>k []
 |x::r,k,bad=>match opd env x with
  | .val (.one (.ptr o off))=>match mem o with
   | .var _ cs=>argPr env mem r (fun l=>k (.val (.one (.ref (prefD (cs.drop off))))::l)) bad
   |_=>bad
  | .val (.one (.row o v))=>match mem o with
   | .row _ _ v' xs _=>bif Nat.beq v v' then argPr env mem r (fun l=>k (.val (.one (.d (.list xs)))::l)) bad else bad
   |_=>bad
  |y=>argAVa true mem y (fun z=>argPr env mem r (fun l=>k (z::l)) bad) bad
theorem ZbV{β:Type}(st:St w0 I0 nt env mem bs a w)(hE:∀t,env' t= .junk\/env' t=env t)(hM:∀o,mem' o= .gone\/mem' o=mem o):∀(l:List Operand)(k:List AV->β)(bad:β),
  (∃az,argPr env' mem' l k bad=k az/\Rel2 (fun y av=>DenAV w (fun b=>b<w.heap.size) noBs noMem y av) (l.map a.eval) az)\/argPr env' mem' l k bad=bad
 | [],k,bad=>.inl ⟨[],rfl,Rel2.nil⟩
 |x::r,k,bad=>by
  have hlt:∀b,Stay w0 I0 mem bs w b->b<w.heap.size:=fun b hb=>by
   rcases hb with ⟨_,h⟩|⟨_,h,_⟩
   .exact st.ltK h
   .exact h
  obtain⟨h1,_⟩:=Zc st hE x;unfold argPr;split
  .rename_i o off hx;rw[hx]at h1;split
   .rename_i T cs hm';have hm:mem o= .var T cs:=by
     rcases hM o with h|h
     .rw[h]at hm';simp at hm'
     .rw[<-h];exact hm'
    rcases ZbV st hE hM r (fun l=>k (.val (.one (.ref (prefD (cs.drop off))))::l)) bad with ⟨az,e,f2⟩|e
    .refine .inl ⟨_,e,f2.cons ?_⟩;obtain⟨b,hb,ex⟩:=h1;have hob:=st.obs o;rw[hm]at hob;obtain⟨b',l,e1,hK,hrow,hl,hd⟩:=hob;rw[hb]at e1;obtain rfl:b=b':=by
      have:=Value.pointer.inj e1;have:=sI this;exact congrArg Addr.block this
     have hb2:b<w.heap.size:=by
      unfold Row at hrow;exact(Array.getElem?_eq_some_iff.1 hrow).1
     refine⟨b,off,hb2,ex,fun j d hj=>?_⟩;have h2:=Zie hj;rw[List.getElem?_drop]at h2;have hjl:off+j<l.length:=by rw[hl];exact(gS h2).1
     refine⟨l[off+j],by rw[hrow.cell?];exact gE hjl,?_⟩;have h3:Den w (Stay w0 I0 mem bs w) l[off+j] d:=hd (off+j) _ _ h2 (gE hjl);exact Den.mono (fun b hb=>⟨hlt b hb,rfl⟩) h3
    .exact .inr e
   .exact .inr rfl
  .rename_i o v hx;rw[hx]at h1;split
   .rename_i T n v' xs own hm';have hm:mem o= .row T n v' xs own:=by
     rcases hM o with h|h
     .rw[h]at hm';simp at hm'
     .rw[<-h];exact hm'
    cases hc:Nat.beq v v' with
    |false=>exact .inr rfl
    |true=>
     obtain rfl:=Nat.eq_of_beq_eq_true hc;simp only[cond_true];rcases ZbV st hE hM r (fun l=>k (.val (.one (.d (.list xs)))::l)) bad with ⟨az,e,f2⟩|e
     .refine .inl ⟨_,e,f2.cons ?_⟩;have hob:=st.obs o;have hbk:=hob.block;have ex:a.eval x=bs o:=h1.2 _ _ _ _ hm;rw[hm]at hob hbk;show Den w _ (a.eval x) (.list xs);rw[ex]
      cases own with
      |false=>exact Den.mono (fun b hb=>⟨hlt b hb,rfl⟩) hob
      |true=>
       obtain⟨ys,g1,g2,_,g4,g5⟩:=hob;refine Zpr g1 g2 g4 (fun b hb=>?_) fun i j r d hi hj=>?_
       .refine(hbk rfl b ?_).2;rcases g1.2 with ⟨e1,_⟩|⟨g,cap,cur,e1,_⟩
        .rw[e1]at hb;simp[blk]at hb
        .rw[e1]at hb⊢;exact hb
       .obtain⟨y,hy,hyd⟩:=g5 i j r d hi hj;exact⟨y,hy,Den.mono (fun b hb=>⟨hlt b hb,rfl⟩) hyd⟩
     .exact .inr e
   .exact .inr rfl
  .rcases Zbq true st hM (opd env' x) (fun z=>argPr env' mem' r (fun l=>k (z::l)) bad) bad with ⟨z,e,g1,g2⟩|e
   .rcases ZbV st hE hM r (fun l=>k (z::l)) bad with ⟨az,e',f2⟩|e'
    .refine .inl ⟨z::az,by rw[e,e'],f2.cons ?_⟩;have K:Keeps w (Stay w0 I0 mem bs w) noBs noMem w (fun b=>b<w.heap.size) noBs noMem (fun _=>False):=⟨fun b hb=>⟨hlt b hb,rfl⟩,fun _ _ h=>h.elim,fun _ _ _ _ _ _ h=>h.elim⟩;exact K.av (fun o ho=>by rw[g1]at ho;simp at ho) (g2 _ _ _ h1)
    .exact .inr (by rw[e,e'])
   .exact .inr e
def planCallP(P:Program)(G:World->Prop)(env:Env)(mem:Mem)(f:Operand)(xs:List Operand):Plan:=
 match opd env f with
 | .val (.one (.d (.v (.func (.func g) first cap))))=>match first.toList,cap.toList with
  | [], []=>argPr env mem xs (fun az=>.ask fun r=>flatAV r=true/\Spec P G g az r) .bad
  |_,_=>.bad
 |_=>.bad
theorem Zjr(hG:G w)(st:St w0 I0 nt env mem bs a w)(hE:∀t,env' t= .junk\/env' t=env t)(hM:∀o,mem' o= .gone\/mem' o=mem o)
 (o:Oper)(f:Operand)(xs:List Operand)(ts:Array TypeId)(ho:o.op= .call { callee:=.value f,args:=⟨xs⟩,argTypes:=ts }):SoundPlan P w0 I0 nt env mem a w o (planCallP P G env' mem' f xs):=by
 obtain⟨h1,_⟩:=Zc st hE f;unfold planCallP;split
 .rename_i g first cap hf
  rw[hf]at h1;have ef:=Zj h1;split
  .rename_i e1 e2;have e1':first=#[]:=by cases first;simpa using e1
   have e2':cap=#[]:=by cases cap;simpa using e2
   subst e1' e2';rcases ZbV st hE hM xs (fun az=>Plan.ask fun r=>flatAV r=true/\Spec P G g az r) Plan.bad with ⟨az,e,hl⟩|e
   .rw[e];intro r ⟨hfl,hspec⟩;have hc:=hspec.2 w (fun b=>b<w.heap.size) (xs.map a.eval) hG (fun b hb=>hb) hl;refine Za0 (f:=g) (args:=(xs.map a.eval).toArray) (w':=w) ?_ ?_
    .have hrun:=hspec.1 (xs.map a.eval).toArray w;simp only[execOp,ho,resolve,ef,Deferred.ofValue,Sem.run_bind,Sem.run_pure,Result.andThen_ok,invoke];simpa using hrun
    .refine Calls.mono hc fun e w' ⟨x,he,hd,hb⟩=>⟨x,he,?_⟩;obtain⟨_,st'⟩:=st.grow hb;exact⟨bs,st',(Zgd hfl hd).1,fun p hp=>by rw[(Zgd (w':=w') (I':=fun _=>True) (bs':=bs) (mem'':=mem) hfl hd).2]at hp;simp at hp⟩
   .rw[e];trivial
  .trivial
 .trivial
end
