/- The engine, no program: code by data. A state of a call is given by data (variables, rows, lists that stay); sp reckons what a piece of code does to it; Zdq: a function whose code does so keeps its contract. Joined by wip/merge_eng.py. -/
import Derived.Test.YtcogfmileelkeaaDoorEngP
import Derived.Lib.ConvBytes
import Derived.Laws.BytesArg
import Derived.Maps.RangeRun
import Derived.Deep.LoopGhost
import Derived.Orders
namespace Go.Proofs.YtcogfmileelkeaaDoor.eng
open Go.RowKit mem
section
variable {P : Program} {G : World → Prop} {w0 : Base} {I0 : Nat → Prop} {nt : Shape} {env env' : Env} {mem mem' : Mem} {bs : Bs} {a : Act} {w : World}
def planIndexV (TB:List (Nat×Ty)) (env:Env) (T:TypeId) (x i:Operand):Plan:=
 match look TB T with
 |some ty=>match ty.str with
  |true=>match opd env x with
   | .val (.one (.d (.v (.string s))))=>intK (opd env i) (fun m=> .ask fun r=>∃ b:UInt8,0≤m∧s[m.toNat]? =some b∧r=one (.int .u8 (b.toNat:Int))) .bad
   |_=> .bad
  |false=> .bad
 |none=> .bad
theorem Zd4 {TB:List (Nat×Ty)} (hTB:TBok P TB) (st:St w0 I0 nt env mem bs a w) (hE:∀ t,env' t= .junk∨env' t=env t)
  (o:Oper) (T:TypeId) (x i:Operand) (ho:o.op= .index T x i):SoundPlan P w0 I0 nt env mem a w o (planIndexV TB env' T x i):=by
 unfold planIndexV
 split
 ·rename_i ty hty
  obtain⟨ti,tu,tz,hi⟩:=Zh (hTB T ty (Zf hty))
  split
  ·rename_i hstr
   have hu:=hi.string hstr
   obtain⟨h1,_⟩:=Zb st hE x
   obtain⟨g1,_⟩:=Zb st hE i
   split
   ·rename_i s hs
    rw [hs] at h1
    have ex:=Zd h1
    rcases Zx (opd env' i) (fun m=>Plan.ask fun r=>∃ b:UInt8,0≤m∧s[m.toNat]? =some b∧r=one (.int .u8 (b.toNat:Int))) Plan.bad with ⟨kd,m,f1,f2⟩|f2
    ·rw [f2]
     rw [f1] at g1
     have ei:=Zd g1
     intro r ⟨b,h0,hb,hr⟩
     subst hr
     refine Za (.int .u8 (b.toNat:Int)) ?_ (Zc st (Den.v _ rfl) (fun p hp=>by simp [one,AV.hs,S.hs,C.hs] at hp))
     simp [execOp,ho,ex,ei,Instr.index,asIntOf,run_underlying hu,h0,hb]
    ·rw [f2];trivial
   ·trivial
  ·trivial
 ·trivial
def rowsK {β:Type} (mem:Mem) (v:AV) (k:List (List D)→β) (bad:β):β:=
 match v with
 | .val (.one (.d (.list xs)))=>k xs
 | .val (.one (.full xs))=>k xs
 | .val (.one (.row o v))=>match mem o with
  | .row _ _ v' xs _=>bif Nat.beq v v' then k xs else bad
  |_=>bad
 | .val (.one (.d (.v (.slice none 0 0))))=>k []
 |_=>bad
def Singles (w:World) (I:Nat→Prop) (x:Value) (xs:List (List D)):Prop:=
 (xs= []∧∃ ad c,x= .slice ad 0 c)∨∃ b off c,x= .slice (some ⟨b,off,none⟩) xs.length c∧∀ (i:Nat) (d:D),xs[i]? =some [d]→∃ y,w.cell? ⟨b,off+i,none⟩=some y∧Den w I y d
theorem Za6 {I:Nat→Prop} {x:Value} {xs:List (List D)} (h:Den w I x (.list xs)) (h1:∀ r,r∈xs→r.length=1):Singles w I x xs:=by
 generalize hd:(D.list xs)=d at h
 cases h with
 |v x hx=>simp at hd
 |iface _ _ _ _ _=>simp at hd
 |fn _ _ _ _ _ _ _ _=>simp at hd
 |nil ad cap=>simp only [D.list.injEq] at hd;subst hd;exact .inl ⟨rfl,ad,cap,rfl⟩
 |list b off cap n ys c hI hn hl hc hdd hcap=>
  simp only [D.list.injEq] at hd
  subst hd
  refine .inr ⟨b,off,cap,rfl,fun i d hi=> ?_⟩
  have hlt:i< xs.length:=(List.getElem?_eq_some_iff.1 hi).1
  have hn1:n=1:=by rw [← hl _ (List.mem_of_getElem? hi)];rfl
  subst hn1
  have:=hc i 0 hlt (by omega)
  rw [Nat.mul_one,Nat.add_zero] at this
  exact⟨_,this,hdd i 0 _ d hi rfl⟩
theorem ZgK {β:Type} (st:St w0 I0 nt env mem bs a w) (hM:∀ o,mem' o= .gone∨mem' o=mem o) (v:AV) (k:List (List D)→β) (bad:β):
  (∃ xs,rowsK mem' v k bad=k xs∧∀ x,DenAV w (Stay w0 I0 mem bs w) bs mem x v→(∀ r,r∈xs→r.length=1)→Singles w (Stay w0 I0 mem bs w) x xs)∨rowsK mem' v k bad=bad:=by
 unfold rowsK
 split
 ·exact .inl ⟨_,rfl,fun x h h1=>Za6 (show Den w _ x _ from h) h1⟩
 ·exact .inl ⟨_,rfl,fun x h h1=>Za6 h.1 h1⟩
 ·rename_i o v
  split
  ·rename_i T n v' xs own ho
   have ho':mem o= .row T n v' xs own:=by
    rcases hM o with h|h
    ·rw [h] at ho;simp at ho
    ·rw [← h];exact ho
   cases e:Nat.beq v v' with
   |false=>exact .inr rfl
   |true=>
    obtain rfl:=Nat.eq_of_beq_eq_true e
    refine .inl ⟨_,rfl,fun x h h1=> ?_⟩
    have hx:x=bs o:=h.2 _ _ _ _ ho'
    have hob:=st.obs o
    rw [ho'] at hob
    cases own with
    |false=>rw [hx];exact Za6 (show Den w _ (bs o) _ from hob) h1
    |true=>
     obtain⟨ys,g1,g2,g3,g4,g5⟩:=hob
     rcases g1.2 with ⟨g6,g7⟩|⟨g,cap,cur,g6,_⟩
     ·have:xs= []:=List.length_eq_zero_iff.1 g7
      exact .inl ⟨this,none,0,by rw [hx,g6]⟩
     ·refine .inr ⟨g,0,cap,by rw [hx,g6],fun i d hi=> ?_⟩
      have hn1:n=1:=by rw [← g4 _ (List.mem_of_getElem? hi)];rfl
      subst hn1
      obtain⟨y,hy,hd⟩:=g5 i 0 _ d hi rfl
      rw [Nat.mul_one,Nat.add_zero] at hy
      have:=g1.row.cells (g:=g) (by rw [g6];rfl) i y hy
      rw [Addr.add_lit] at this
      exact⟨y,this,hd⟩
  ·exact .inr rfl
 ·refine .inl ⟨[],rfl,fun x h _=> .inl ⟨rfl,none,0,?_⟩⟩
  exact Zd h
 ·exact .inr rfl
def bytesD (s:ByteArray):List (List D):=s.data.toList.map fun c=> [D.v (.int .u8 (c.toNat:Int))]
theorem ZeG (w:World) (e:TypeId) (s:ByteArray):Below w.heap.size w (Lib.bytesWorld w e s):=
 ⟨rfl,rfl,rfl,by rw [Lib.bytesWorld_size];omega,fun k hk=>Lib.bytesWorld_at_old w e s k hk⟩
theorem Zg7 (w:World) (e:TypeId) (s:ByteArray) {I:Nat→Prop} (hI:I w.heap.size) (c:Nat) (hc:s.size≤c):Den (Lib.bytesWorld w e s) I (.slice (some ⟨w.heap.size,0,none⟩) s.size c) (.list (bytesD s)):=by
 have hl:(bytesD s).length=s.size:=by unfold bytesD;rw [List.length_map];rfl
 rw [← hl]
 refine Den.list w.heap.size 0 c 1 (bytesD s) (fun i _=> .int .u8 ((s.data.toList.getD i 0).toNat:Int)) hI (by decide) (fun r hr=> ?_) (fun i j hi hj=> ?_) (fun i j r d h1 h2=> ?_) (by rw [hl];exact hc)
 ·obtain⟨x,_,rfl⟩:=List.mem_map.1 hr;rfl
 ·obtain rfl:j=0:=by omega
  rw [hl] at hi
  have:=Lib.bytesWorld_cell w e s i hi
  rw [show 0+i*1+0=i by omega];exact this
 ·unfold bytesD at h1
  rw [List.getElem?_map] at h1
  cases e1:s.data.toList[i]? with
  |none=>rw [e1] at h1;simp at h1
  |some x=>
   rw [e1] at h1
   obtain rfl: [D.v (.int .u8 (x.toNat:Int))]=r:=Option.some.inj h1
   have hj:j=0:=by
    have:=(List.getElem?_eq_some_iff.1 h2).1
    simp at this;omega
   subst hj
   obtain rfl:D.v (.int .u8 (x.toNat:Int))=d:=Option.some.inj h2
   rw [List.getD_eq_getElem?_getD,e1]
   exact Den.v _ rfl
def planConvert (P:Program) (env:Env) (mem:Mem) (src dst:TypeId) (x:Operand):Plan:=
 match opd env x with
 | .val (.one (.d (.v (.int _ n))))=> .ask fun r=>∃ k',(P.underlying src).isSome=true∧P.underlying dst=some (.int k')∧r=one (.int k' (k'.wrap n))
 | .val (.one (.d (.v (.string s))))=> .ask fun r=>∃ e,(P.underlying src).isSome=true∧P.underlying dst=some (.slice e)∧P.underlying e=some (.int .u8)∧r= .val (.one (.d (.list (bytesD s))))
 |v=>rowsK mem v (fun xs=> .ask fun r=>∃ (e:TypeId) (ns:List Int),xs=ns.map (fun n=> [D.v (.int .u8 n)])∧P.underlying src=some (.slice e)∧P.underlying e=some (.int .u8)∧P.underlying dst=some .string∧r=one (.string (strOfNums ns))) .bad
theorem Zdt (st:St w0 I0 nt env mem bs a w) (hE:∀ t,env' t= .junk∨env' t=env t) (hM:∀ o,mem' o= .gone∨mem' o=mem o)
  (o:Oper) (src dst:TypeId) (x:Operand) (ho:o.op= .convert src dst x):SoundPlan P w0 I0 nt env mem a w o (planConvert P env' mem' src dst x):=by
 obtain⟨h1,_⟩:=Zb st hE x
 unfold planConvert
 split
 ·rename_i k n hn
  rw [hn] at h1
  have e:=Zd h1
  intro r ⟨k',hs,hd,hr⟩
  subst hr
  refine Za (.int k' (k'.wrap n)) ?_ (Zc st (Den.v _ rfl) (fun p hp=>by simp [one,AV.hs,S.hs,C.hs] at hp))
  obtain⟨d,hd'⟩:=Option.isSome_iff_exists.mp hs
  have:(convert src dst (.int k n)).run P w= .ok (.int k' (k'.wrap n)) w:=by simp [convert,run_underlying hd',run_underlying hd,Conv.intToInt]
  simp [execOp,ho,e,this]
 ·rename_i s hn
  rw [hn] at h1
  have e:=Zd h1
  intro r ⟨el,hs,hd,he,hr⟩
  subst hr
  obtain⟨d,hd'⟩:=Option.isSome_iff_exists.mp hs
  have hrun:=Lib.run_convert_string_bytes (P:=P) w src dst el s hd' hd he
  refine Za (w':=Lib.bytesWorld w el s) (.slice (some ⟨w.heap.size,0,none⟩) s.size (grownCap w s.size 0 el)) ?_ ?_
  ·simp [execOp,ho,e,hrun]
  ·have hb:=ZeG w el s
   obtain⟨K,st'⟩:=st.grow hb
   refine Zc st' (Zg7 w el s (Zbj hb st _ (.inr ⟨Nat.le_refl _,by rw [Lib.bytesWorld_size];omega⟩)) _ ?_) (fun p hp=>by simp [AV.hs,S.hs,C.hs] at hp)
   exact grownCap_ge w s.size 0 el
 ·rename_i v hv
  rcases ZgK st hM (opd env' x) (fun xs=>Plan.ask fun r=>∃ (e:TypeId) (ns:List Int),xs=ns.map (fun n=> [D.v (.int .u8 n)])∧P.underlying src=some (.slice e)∧P.underlying e=some (.int .u8)∧P.underlying dst=some .string∧r=one (.string (strOfNums ns))) Plan.bad with ⟨xs,e1,h2⟩|e1
  ·rw [e1]
   intro r ⟨e,ns,hxs,hs,he,hd,hr⟩
   subst hr
   refine Za (.string (strOfNums ns)) ?_ (Zc st (Den.v _ rfl) (fun p hp=>by simp [one,AV.hs,S.hs,C.hs] at hp))
   have hrun:(convert src dst (a.eval x)).run P w= .ok (.string (strOfNums ns)) w:=by
    rcases h2 _ h1 (by intro r hr;rw [hxs] at hr;obtain⟨n,_,rfl⟩:=List.mem_map.1 hr;rfl) with ⟨h3,ad,c,h4⟩|⟨b,off,c,h4,h5⟩
    ·rw [h4]
     rw [h3] at hxs
     have hns:ns= []:=List.map_eq_nil_iff.1 hxs.symm
     subst hns
     cases ad with
     |none=>
      have:=run_convert_bytes_nil (P:=P) w src e hs he 0 c dst hd
      rw [this];rfl
     |some q=>
      have:=run_convert_bytes_string (P:=P) w src dst e (some q) 0 c hs he hd
      rw [this,run_bytesToString w q 0 c [] (by simp [loadCells,loadCellsFrom])]
      rfl
    ·rw [h4]
     have hlen:ns.length=xs.length:=by rw [hxs,List.length_map]
     refine run_convert_bytes_arg (P:=P) w src e hs he b off xs.length c ns hlen (fun i hi=> ?_) dst hd
     have hin:i< ns.length:=by omega
     obtain⟨y,hy,hden⟩:=h5 i (.v (.int .u8 ns[i])) (by rw [hxs,List.getElem?_map,List.getElem?_eq_getElem hin];rfl)
     cases hden
     rw [hy]
     simp [List.getD,List.getElem?_eq_getElem hin]
   simp [execOp,ho,hrun]
  ·rw [e1];trivial
end
section
variable {P : Program} {G : World → Prop} {w0 : Base} {I0 : Nat → Prop} {nt : Shape} {env env' : Env} {mem mem' : Mem} {bs : Bs} {a : Act} {w : World}
theorem Zaw {α:Type} (f:Nat→α) (i:Nat):upd f i (f i)=f:=by
 funext j
 by_cases e:j=i
 ·subst e;rw [Ze]
 ·rw [Zw _ _ e]
theorem St.freeze (st:St w0 I0 nt env mem bs a w) (o:Nat) {T n k:Nat} {xs:List (List D)} (hm:mem o= .row T n k xs true):St w0 I0 nt env (upd mem o (.row T n k xs false)) bs a w:=by
 have hv:Turns mem bs o (.row T n k xs false) (bs o):= .inr (.inr (.inl ⟨T,n,k,xs,true,T,n,k,xs,false,hm,rfl,Nat.le_refl _,fun _=>⟨rfl,rfl⟩⟩))
 have K:=st.keeps o (.row T n k xs false) (bs o) (Bel.refl _ w) (fun _ _ _=>rfl) (fun b hb=>by simp [Ob.mut] at hb) hv
 have h:=st.update o (.row T n k xs false) (bs o) (Bel.refl _ w) (fun _ _ _=>rfl) (fun b hb=>by simp [Ob.mut] at hb) hv rfl (fun p hp=>by simp [Ob.hs] at hp) (by
  rw [Zaw] at K ⊢
  show Den w _ (bs o) (.list xs)
  have ho:=st.obs o
  rw [hm] at ho
  obtain⟨ys,hown,hn,hlen,hrow,hden⟩:=ho
  have hown':=hown
  obtain⟨h1,h2⟩:=hown
  rcases h2 with ⟨hnil,h0⟩|⟨g,cap,cur,hbs,hb,hg,hle,hmax,hsz,htk⟩
  ·rw [hnil]
   have:xs= []:=List.length_eq_zero_iff.1 h0
   subst this
   exact Den.nil none 0
  ·have hlt:g< w.heap.size:=(Array.getElem?_eq_some_iff.1 hg).1
   have hblk:blk (bs o)=some g:=by rw [hbs];rfl
   have hown2:(bs o).ownBlock=some g:=by rw [hbs];rfl
   have hcells:=hown'.row.cells hown2
   rw [hbs]
   refine Den.list g 0 cap n xs (fun i j=>ys.getD (i*n+j) undef) (.inr ⟨hb,hlt,fun o' hm' hbk=> ?_⟩) hn hrow (fun i j hi hj=> ?_) (fun i j r d hr hd=> ?_) hle
   ·by_cases e:o'=o
    ·subst e;rw [Ze] at hm';simp [Ob.mut] at hm'
    ·rw [Zw _ _ e] at hm'
     exact e (st.sep o' o g hm' (by rw [hm];rfl) hbk hblk)
   ·have hin:i*n+j< ys.length:=by
     have:(i+1)*n≤xs.length*n:=Nat.mul_le_mul_right _ hi
     rw [Nat.add_mul,Nat.one_mul] at this
     omega
    have:=hcells (i*n+j) ys[i*n+j] (List.getElem?_eq_getElem hin)
    rw [Addr.add_lit] at this
    rw [show 0+i*n+j=0+(i*n+j) by omega,this]
    simp [List.getD,List.getElem?_eq_getElem hin]
   ·obtain⟨y,hy,hd'⟩:=hden i j r d hr hd
    have e:ys.getD (i*n+j) undef=y:=by simp [List.getD,hy]
    rw [e]
    exact Den.mono K.stay hd')
 rwa [Zaw] at h
noncomputable def ownCells (mem:Mem) (q:Option (Nat×Ob)) (cs:List C):Option (Nat×Ob):=
 @List.rec C (fun _=>Option (Nat×Ob)) q (fun c _ r=>match c with
  | .row o _=>match mem o with
   | .row T n v ys true=>some (o,.row T n v ys false)
   |_=>r
  |_=>r) cs
theorem Zfd {q:Option (Nat×Ob)} {cs:List C} {p:Nat×Ob} (h:ownCells mem q cs=some p):q=some p∨∃ T n k ys,mem p.1= .row T n k ys true∧p.2= .row T n k ys false:=by
 induction cs with
 |nil=>exact .inl h
 |cons c r ih=>
  unfold ownCells at h
  simp only at h
  split at h
  ·split at h
   ·rename_i hm
    obtain rfl:=Option.some.inj h
    exact .inr ⟨_,_,_,_,hm,rfl⟩
   ·exact ih h
  ·exact ih h
noncomputable def ownArg (env:Env) (mem:Mem) (xs:List Operand):Option (Nat×Ob):=
 @List.rec Operand (fun _=>Option (Nat×Ob)) none (fun x _ r=>match opd env x with
  | .val (.one (.row o _))=>match mem o with
   | .row T n v ys true=>some (o,.row T n v ys false)
   |_=>r
  | .val (.agg cs)=>ownCells mem r cs
  |_=>r) xs
theorem Zef {xs:List Operand} {p:Nat×Ob} (h:ownArg env mem xs=some p):∃ T n k ys,mem p.1= .row T n k ys true∧p.2= .row T n k ys false:=by
 induction xs with
 |nil=>simp [ownArg] at h
 |cons x r ih=>
  unfold ownArg at h
  simp only at h
  split at h
  ·split at h
   ·rename_i hm
    obtain rfl:=Option.some.inj h
    exact⟨_,_,_,_,hm,rfl⟩
   ·exact ih h
  ·rcases Zfd h with h|h
   ·exact ih h
   ·exact h
  ·exact ih h
def toF (id:Nat) (ob:Ob):Plan→Plan
 | .askN _ Φ=> .askF id ob Φ
 |_=> .bad
noncomputable def planCallG (P:Program) (G:World→Prop) (env:Env) (mem:Mem) (dst:Option Nat) (f:Operand) (xs:List Operand):Plan:=
 match ownArg env mem xs with
 |none=>planCallF false P G env mem dst f xs
 |some p=>toF p.1 p.2 (planCallF false P G env (upd mem p.1 p.2) none f xs)
theorem ZeZ (hG:G w) (st:St w0 I0 nt env mem bs a w) (hE:∀ t,env' t= .junk∨env' t=env t) (hM:∀ o,mem' o= .gone∨mem' o=mem o)
  (o:Oper) (dst:Option Nat) (f:Operand) (xs:List Operand) (ts:Array TypeId) (ho:o.op= .call { callee:= .value f,args:=⟨xs⟩,argTypes:=ts }) (hD:∀ d,dst=some d→mem' d=mem d):SoundPlan P w0 I0 nt env mem a w o (planCallG P G env' mem' dst f xs):=by
 unfold planCallG
 split
 ·exact ZY false hG st hE hM o dst f xs ts ho hD
 ·rename_i p hp
  obtain⟨T,n,k,ys,h1,h2⟩:=Zef hp
  have hm:mem p.1= .row T n k ys true:=by
   rcases hM p.1 with h|h
   ·rw [h] at h1;simp at h1
   ·rw [← h];exact h1
  rw [h2]
  have st1:=st.freeze p.1 hm
  have h:=ZY false (P:=P) (mem':=upd mem' p.1 (.row T n k ys false)) hG st1 hE (fun i=>by
   by_cases e:i=p.1
   ·subst e;rw [Ze,Ze];exact .inr rfl
   ·rw [Zw _ _ e,Zw _ _ e];exact hM i) o none f xs ts ho (fun d hd=>by simp at hd)
  cases hq:planCallF false P G env' (upd mem' p.1 (.row T n k ys false)) none f xs with
  |askN d Φ=>rw [hq] at h;exact h.1
  |_=>trivial
theorem Zda {I I':Nat→Prop} {w':World} {x:Value} {T n:Nat} {xs:List (List D)} (hf:Fresh w I w' x T n xs) (hv:∀ r,r∈xs→∀ d,d∈r→∃ v,d= .v v):Fresh w I' w' x T n xs:=by
 obtain⟨ys,h1,h2,h3,h4,h5⟩:=hf
 refine⟨ys,h1,h2,h3,h4,fun i j r d hr hd=> ?_⟩
 obtain⟨y,hy,hd'⟩:=h5 i j r d hr hd
 obtain⟨v,rfl⟩:=hv r (List.mem_of_getElem? hr) d (List.mem_of_getElem? hd)
 refine⟨y,hy,?_⟩
 cases hd' with
 |v _ hx=>exact .v _ hx
def planCallB (P:Program) (G:World→Prop) (env:Env) (mem:Mem) (dst:Option Nat) (f:Operand) (xs:List Operand):Plan:=
 match opd env f,xs with
 | .val (.one (.d (.v (.func (.func g) first cap)))), [x]=>match first.toList,cap.toList,opd env x with
  | [], [],.val (.one (.row o k))=>match mem o with
   | .row _ _ k' ys true=>bif Nat.beq k k' then .askN (roomOf mem dst) (fun r=>∃ T n zs,r= .new T n zs∧SpecR P G g [.val (.one (.d (.list ys)))] T n zs∧∀ r,r∈zs→∀ d,d∈r→∃ v,d= .v v) else .bad
   |_=> .bad
  |_,_,_=> .bad
 |_,_=> .bad
theorem Ze0 (hG:G w) (st:St w0 I0 nt env mem bs a w) (hE:∀ t,env' t= .junk∨env' t=env t) (hM:∀ o,mem' o= .gone∨mem' o=mem o)
  (o:Oper) (dst:Option Nat) (f:Operand) (xs:List Operand) (ts:Array TypeId) (ho:o.op= .call { callee:= .value f,args:=⟨xs⟩,argTypes:=ts }) (hD:∀ d,dst=some d→mem' d=mem d):SoundPlan P w0 I0 nt env mem a w o (planCallB P G env' mem' dst f xs):=by
 obtain⟨h1,_⟩:=Zb st hE f
 unfold planCallB
 split
 ·rename_i g first cap x hf
  rw [hf] at h1
  have ef:=Zd h1
  split
  ·rename_i q k e1 e2 e3
   have e1':first=#[]:=by cases first;simpa using e1
   have e2':cap=#[]:=by cases cap;simpa using e2
   subst e1' e2'
   split
   ·rename_i T' n' k' ys hm
    have hm1:mem q= .row T' n' k' ys true:=by
     rcases hM q with h|h
     ·rw [h] at hm;simp at hm
     ·rw [← h];exact hm
    cases hk:Nat.beq k k' with
    |false=>trivial
    |true=>
     obtain rfl:=Nat.eq_of_beq_eq_true hk
     obtain⟨g1,_⟩:=Zb st hE x
     rw [e3] at g1
     have ex1:a.eval x=bs q:=g1.2 _ _ _ _ hm1
     have st1:=st.freeze q hm1
     have hob:=st1.obs q
     rw [Ze] at hob
     have hob:Den w (Stay w0 I0 (upd mem q (.row T' n' k ys false)) bs w) (bs q) (.list ys):=hob
     simp only [cond_true]
     refine⟨fun r hn h=>by obtain⟨T,n,zs,rfl,_⟩:=h;simp [AV.isNew] at hn,fun d hd T n zs h=> ?_⟩
     obtain⟨T2,n2,zs2,heq,hspec,hflat⟩:=h
     obtain⟨rfl,rfl,rfl⟩:T=T2∧n=n2∧zs=zs2:=by simpa using heq
     have hgone:mem d= .gone:=by
      unfold roomOf at hd
      split at hd
      ·rename_i d'
       split at hd
       ·rename_i hg
        obtain rfl:=Option.some.inj hd
        rw [← hD d' rfl];exact hg
       ·simp at hd
      ·simp at hd
     have hc:=hspec.2 w (Stay w0 I0 (upd mem q (.row T' n' k ys false)) bs w) [bs q] hG (fun b hb=>by
      rcases hb with ⟨_,h⟩|⟨_,h,_⟩
      ·exact st.ltK h
      ·exact h) (Rel2.cons hob Rel2.nil)
     refine ZD (f:=g) (args:= [bs q].toArray) (w':=w) ?_ ?_
     ·have hrun:=hspec.1 [bs q].toArray w
      simp only [execOp,ho,resolve,ef,Deferred.ofValue,Sem.run_bind,Sem.run_pure,Result.andThen_ok,invoke]
      simpa [ex1] using hrun
     ·refine Calls.mono hc fun e w' ⟨x,he,hf,hb⟩=>⟨x,he,?_⟩
      exact Zba st hgone (Zda hf hflat) hb
   ·trivial
  ·trivial
 ·trivial
def toR (id:Nat) (ob:Ob):Plan→Plan
 | .ret v=> .put v id ob
 |_=> .bad
noncomputable def planBuildSliceF (TB:List (Nat×Ty)) (env:Env) (mem:Mem) (T:TypeId) (n:Nat) (parts:List (Nat×Operand)):Plan:=
 match ownArg env mem (parts.map (·.2)) with
 |none=>planBuildSlice TB env mem T n parts
 |some p=>toR p.1 p.2 (planBuildSlice TB env (upd mem p.1 p.2) T n parts)
theorem ZbD {TB:List (Nat×Ty)} (hTB:TBok P TB) (st:St w0 I0 nt env mem bs a w) (hE:∀ t,env' t= .junk∨env' t=env t) (hM:∀ o,mem' o= .gone∨mem' o=mem o)
  (o:Oper) (T:TypeId) (n:Nat) (parts:Array (Nat×Operand)) (ho:o.op= .buildSlice T n parts):SoundPlan P w0 I0 nt env mem a w o (planBuildSliceF TB env' mem' T n parts.toList):=by
 unfold planBuildSliceF
 split
 ·exact ZaK hTB st hE hM o T n parts ho
 ·rename_i p hp
  obtain⟨T1,n1,k,ys,h1,h2⟩:=Zef hp
  have hm:mem p.1= .row T1 n1 k ys true:=by
   rcases hM p.1 with h|h
   ·rw [h] at h1;simp at h1
   ·rw [← h];exact h1
  rw [h2]
  have st1:=st.freeze p.1 hm
  have h:=ZaK (P:=P) (mem':=upd mem' p.1 (.row T1 n1 k ys false)) hTB st1 hE (fun i=>by
   by_cases e:i=p.1
   ·subst e;rw [Ze,Ze];exact .inr rfl
   ·rw [Zw _ _ e,Zw _ _ e];exact hM i) o T n parts ho
  cases hq:planBuildSlice TB env' (upd mem' p.1 (.row T1 n1 k ys false)) T n parts.toList with
  |ret v=>rw [hq] at h;exact h
  |_=>trivial
def planAssignF (env:Env) (mem:Mem) (x:Operand):Plan:=
 match opd env x with
 | .val (.one (.row o k))=>match mem o with
  | .row T n k' xs true=>bif Nat.beq k k' then .put (.val (.one (.d (.list xs)))) o (.row T n k xs false) else .bad
  |_=> .bad
 |v=> .ret v
theorem Zdu (st:St w0 I0 nt env mem bs a w) (hE:∀ t,env' t= .junk∨env' t=env t) (hM:∀ o,mem' o= .gone∨mem' o=mem o) (o:Oper) (x:Operand) (ho:o.op= .assign x):SoundPlan P w0 I0 nt env mem a w o (planAssignF env' mem' x):=by
 obtain⟨g1,_⟩:=Zb st hE x
 unfold planAssignF
 split
 ·rename_i q k hx
  rw [hx] at g1
  split
  ·rename_i T n k' xs hm
   cases hk:Nat.beq k k' with
   |false=>trivial
   |true=>
    obtain rfl:=Nat.eq_of_beq_eq_true hk
    have hm1:mem q= .row T n k xs true:=by
     rcases hM q with h|h
     ·rw [h] at hm;simp at hm
     ·rw [← h];exact hm
    have ex1:a.eval x=bs q:=g1.2 _ _ _ _ hm1
    have st1:=st.freeze q hm1
    have hob:=st1.obs q
    rw [Ze] at hob
    have hob:Den w (Stay w0 I0 (upd mem q (.row T n k xs false)) bs w) (bs q) (.list xs):=hob
    simp only [cond_true]
    refine Za (a.eval x) ?_ (Zc st1 (v:= .val (.one (.d (.list xs)))) (by rw [ex1];exact hob) (fun p hp=>by simp [AV.hs,S.hs,C.hs] at hp))
    simp [execOp,ho]
  ·trivial
 ·exact ZbC st hE o x (.inr ho)
def frzO (o:Nat) (mem:Mem):Mem:=match mem o with
 | .row T n k xs true=>upd mem o (.row T n k xs false)
 |_=>mem
theorem St.frzO (st:St w0 I0 nt env mem bs a w) (o:Nat):St w0 I0 nt env (frzO o mem) bs a w:=by
 unfold eng.frzO
 split
 ·rename_i hm;exact st.freeze o hm
 ·exact st
def frzC (c:C) (mem:Mem):Mem:=match c with
 | .row o _=>frzO o mem
 |_=>mem
theorem St.frzC (st:St w0 I0 nt env mem bs a w) (c:C):St w0 I0 nt env (frzC c mem) bs a w:=by
 unfold eng.frzC
 split
 ·exact st.frzO _
 ·exact st
def frzCs:List C→Mem→Mem
 | [],mem=>mem
 |c :: r,mem=>frzCs r (frzC c mem)
theorem St.frzCs:∀ (cs:List C) {mem:Mem},St w0 I0 nt env mem bs a w→St w0 I0 nt env (frzCs cs mem) bs a w
 | [],_,st=>st
 |c :: r,_,st=>St.frzCs r (st.frzC c)
def frzR (env:Env):List ResultVar→Mem→Mem
 | [],mem=>mem
 | .tmp t :: r,mem=>frzR env r (match env t with
  | .val (.one c)=>frzC c mem
  | .val (.agg cs)=>frzCs cs mem
  |_=>mem)
 | .cell t _ :: r,mem=>frzR env r (match env t with
  | .val (.one (.ptr b _))=>match mem b with
   | .var _ cs=>frzCs cs mem
   |_=>mem
  |_=>mem)
theorem St.frzR:∀ (rs:List ResultVar) {mem:Mem},St w0 I0 nt env mem bs a w→St w0 I0 nt env (frzR env rs mem) bs a w
 | [],_,st=>st
 | .tmp t :: r,_,st=>by
  unfold eng.frzR
  refine St.frzR r ?_
  split
  ·exact st.frzC _
  ·exact St.frzCs _ st
  ·exact st
 | .cell t T :: r,_,st=>by
  unfold eng.frzR
  refine St.frzR r ?_
  split
  ·split
   ·exact St.frzCs _ st
   ·exact st
  ·exact st
end
section
variable {P : Program} {G : World → Prop} {w0 : Base} {I0 : Nat → Prop} {nt : Shape} {env env' : Env} {mem mem' : Mem} {bs : Bs} {a : Act} {w : World}
def planSliceS (P:Program) (TB:List (Nat×Ty)) (env:Env) (mem:Mem) (T:TypeId) (x:Operand) (lo hi mx:Option Operand):Plan:=
 match opd env x with
 | .val (.one (.d (.v (.string s))))=>match lo,hi,mx with
  |some l,none,none=>valK (opd env l) (fun lv=> .ask fun r=>∃ v,r=one (.string v)∧∀ w,(Instr.sliceAt T (.string s) (some lv) none none).run P w= .ok (.string v) w) .bad
  |none,some h,none=>valK (opd env h) (fun hv=> .ask fun r=>∃ v,r=one (.string v)∧∀ w,(Instr.sliceAt T (.string s) none (some hv) none).run P w= .ok (.string v) w) .bad
  |_,_,_=> .bad
 |_=>planSliceK TB env mem T x lo hi mx
theorem ZdZ {TB:List (Nat×Ty)} (hTB:TBok P TB) (st:St w0 I0 nt env mem bs a w) (hE:∀ t,env' t= .junk∨env' t=env t) (hM:∀ o,mem' o= .gone∨mem' o=mem o)
  (o:Oper) (T:TypeId) (x:Operand) (lo hi mx:Option Operand) (ho:o.op= .slice T x lo hi mx):SoundPlan P w0 I0 nt env mem a w o (planSliceS P TB env' mem' T x lo hi mx):=by
 have base:=Zd0 hTB st hE hM o T x lo hi mx ho
 unfold planSliceS
 split
 ·rename_i s hs
  obtain⟨h1,_⟩:=Zb st hE x
  rw [hs] at h1
  have ex:=Zd h1
  split
  ·rename_i l
   obtain⟨g1,_⟩:=Zb st hE l
   rcases Zaa (opd env' l) (fun lv=>Plan.ask fun r=>∃ v,r=one (.string v)∧∀ w,(Instr.sliceAt T (.string s) (some lv) none none).run P w= .ok (.string v) w) Plan.bad with ⟨lv,e1,f1⟩|e1
   ·rw [e1]
    intro r ⟨v,hr,hrun⟩
    subst hr
    have el:=f1 _ _ _ _ _ g1
    refine Za (.string v) ?_ (Zc st (Den.v _ rfl) (fun p hp=>by simp [one,AV.hs,S.hs,C.hs] at hp))
    simp only [execOp,ho,ex,el,Option.map_some,Option.map_none,Sem.run_bind,hrun,Result.andThen_ok,Sem.run_pure]
   ·rw [e1];trivial
  ·rename_i l
   obtain⟨g1,_⟩:=Zb st hE l
   rcases Zaa (opd env' l) (fun lv=>Plan.ask fun r=>∃ v,r=one (.string v)∧∀ w,(Instr.sliceAt T (.string s) none (some lv) none).run P w= .ok (.string v) w) Plan.bad with ⟨lv,e1,f1⟩|e1
   ·rw [e1]
    intro r ⟨v,hr,hrun⟩
    subst hr
    have el:=f1 _ _ _ _ _ g1
    refine Za (.string v) ?_ (Zc st (Den.v _ rfl) (fun p hp=>by simp [one,AV.hs,S.hs,C.hs] at hp))
    simp only [execOp,ho,ex,el,Option.map_some,Option.map_none,Sem.run_bind,hrun,Result.andThen_ok,Sem.run_pure]
   ·rw [e1];trivial
  ·trivial
 ·exact base
def planMakeIface (P:Program) (env:Env) (mem:Mem) (T:TypeId) (x:Operand):Plan:=
 match opd env x with
 | .val (.agg cs)=>dsK mem cs (fun ds=> .ask fun r=>r= .val (.one (.d (.iface T ds)))∧∀ w v,(Instr.makeInterface T v).run P w= .ok (.iface T v) w) .bad
 |_=> .bad
theorem Zcd (st:St w0 I0 nt env mem bs a w) (hE:∀ t,env' t= .junk∨env' t=env t) (hM:∀ o,mem' o= .gone∨mem' o=mem o)
  (o:Oper) (T:TypeId) (x:Operand) (ho:o.op= .makeInterface T x):SoundPlan P w0 I0 nt env mem a w o (planMakeIface P env' mem' T x):=by
 unfold planMakeIface
 split
 ·rename_i cs hx
  obtain⟨h1,_⟩:=Zb st hE x
  rw [hx] at h1
  obtain⟨l,ex,hl,hr⟩:=h1
  rcases Zb6 st hM cs (fun ds=>Plan.ask fun r=>r= .val (.one (.d (.iface T ds)))∧∀ w v,(Instr.makeInterface T v).run P w= .ok (.iface T v) w) Plan.bad with ⟨ds,e1,f1⟩|e1
  ·rw [e1]
   intro r ⟨hr',hrun⟩
   subst hr'
   have hd:=f1 l ⟨hl,hr⟩
   refine Za (.iface T (.agg l.toArray)) ?_ (Zc st (Den.iface T l ds hd.1 hd.2) (fun p hp=>by simp [AV.hs,S.hs,C.hs] at hp))
   simp only [execOp,ho,ex,Sem.run_bind,hrun,Result.andThen_ok,Sem.run_pure]
  ·rw [e1];trivial
 ·trivial
def MethodIs (P:Program) (T:TypeId) (name:String) (g:FuncId):Prop:=
 ∀ (w:World) (v:Value),(method (P.types.size+Made.depth) T v name).run P w= .ok (g,v) w
def planInvoke (P:Program) (G:World→Prop) (env:Env) (mem:Mem) (recv:Operand) (name:String) (xs:List Operand):Plan:=
 match opd env recv with
 | .val (.one (.d (.iface T ds)))=>argAVs false mem env xs (fun as=> .ask fun r=>r.isNew=false∧∃ g,MethodIs P T name g∧CallR P G g (.val (.agg (ds.map C.d)) :: as) r) .bad
 |_=> .bad
theorem Zd3 (hG:G w) (st:St w0 I0 nt env mem bs a w) (hE:∀ t,env' t= .junk∨env' t=env t) (hM:∀ o,mem' o= .gone∨mem' o=mem o)
  (o:Oper) (recv:Operand) (name:String) (xs:List Operand) (ts:Array TypeId) (ho:o.op= .call { callee:= .invoke recv name,args:=⟨xs⟩,argTypes:=ts }):SoundPlan P w0 I0 nt env mem a w o (planInvoke P G env' mem' recv name xs):=by
 obtain⟨h1,_⟩:=Zb st hE recv
 unfold planInvoke
 split
 ·rename_i T ds hf
  rw [hf] at h1
  have h1':Den w (Stay w0 I0 mem bs w) (a.eval recv) (.iface T ds):=h1
  rcases Z4 false st hE hM xs (fun as=>Plan.ask fun r=>r.isNew=false∧∃ g,MethodIs P T name g∧CallR P G g (.val (.agg (ds.map C.d)) :: as) r) Plan.bad with ⟨l,e,hl⟩|e
  ·rw [e]
   intro r ⟨hn,g,hm,hcall⟩
   obtain⟨hr,hspec⟩:=Zgn hcall hn
   generalize hrv:a.eval recv=rv at h1'
   cases h1' with
   |iface _ vl _ hvl hvd=>
    have hrel:Rel2 (fun y v=>DenAV w (Stay w0 I0 mem bs w) noBs noMem y v) (.agg vl.toArray :: xs.map a.eval) (.val (.agg (ds.map C.d)) :: l):=by
     refine(hl noBs noMem).cons ⟨vl,rfl,by simp [hvl],fun j c y hc hy=> ?_⟩
     rw [List.getElem?_map] at hc
     cases hq:ds[j]? with
     |none=>rw [hq] at hc;simp at hc
     |some d=>
      rw [hq] at hc
      obtain rfl:=Option.some.inj hc
      exact hvd j d y hq hy
    have hc:=hspec.2 w (Stay w0 I0 mem bs w) (.agg vl.toArray :: xs.map a.eval) hG (fun b hb=>by
     rcases hb with ⟨_,h⟩|⟨_,h,_⟩
     ·exact st.ltK h
     ·exact h) hrel
    refine ZD (f:=g) (args:=(.agg vl.toArray :: xs.map a.eval).toArray) (w':=w) ?_ ?_
    ·have hrun:=hspec.1 (.agg vl.toArray :: xs.map a.eval).toArray w
     have hmm:=hm w (.agg vl.toArray)
     have e1:(#[Value.iface T (.agg vl.toArray)]++(Array.map a.eval ⟨xs⟩)).extract 1 (#[Value.iface T (.agg vl.toArray)]++(Array.map a.eval ⟨xs⟩)).size=(xs.map a.eval).toArray:=by
      apply Array.toList_inj.1
      simp
      exact List.take_of_length_le (by simp)
     have e2:(#[Value.agg vl.toArray]++(xs.map a.eval).toArray)=(.agg vl.toArray :: xs.map a.eval).toArray:=by
      apply Array.toList_inj.1
      simp
     have e3:(#[Value.iface T (.agg vl.toArray)]++(Array.map a.eval ⟨xs⟩))[0]? =some (Value.iface T (.agg vl.toArray)):=by simp
     simp only [execOp,ho,resolve,hrv,Sem.run_bind,Sem.run_pure,Result.andThen_ok,invoke,e3,e1,callMethod,run_program,hmm,e2]
     exact hrun
    ·refine Calls.mono hc fun e w' ⟨x,he,hd,hb⟩=>⟨x,he,?_⟩
     obtain⟨K,st'⟩:=st.grow hb
     refine⟨bs,st',?_,fun p hp=>by rw [hr] at hp;simp at hp⟩
     have K2:Keeps w' (fun b=>Stay w0 I0 mem bs w b∨(w.heap.size≤b∧b< w'.heap.size)) noBs noMem w' (Stay w0 I0 mem bs w') bs mem (fun _=>False):=
      ⟨fun b hbb=>⟨Zbj hb st b hbb,rfl⟩,fun _ _ h=>h.elim,fun _ _ _ _ _ _ h=>h.elim⟩
     exact K2.av (fun p hp=>by rw [hr] at hp;simp at hp) hd
  ·rw [e];trivial
 ·trivial
def planBinI (P:Program) (env:Env) (op:BinOp) (T:TypeId) (x y:Operand):Plan:=
 match opd env x,opd env y with
 | .val (.one (.d (.iface t _))),.val (.one (.d (.v .nilIface)))=> .ask fun r=>∃ b:Bool,r=one (.bool b)∧∀ w l,(do eqGuard op T x y (.iface t (.agg l)) .nilIface;binOp op T (.iface t (.agg l)) .nilIface:Sem Value).run P w= .ok (.bool b) w
 |_,_=>planBin P env op T x y
theorem ZgH (st:St w0 I0 nt env mem bs a w) (hE:∀ t,env' t= .junk∨env' t=env t) (o:Oper) (op:BinOp) (T yT:TypeId) (x y:Operand) (ho:o.op= .binOp op T x y yT):SoundPlan P w0 I0 nt env mem a w o (planBinI P env' op T x y):=by
 have base:=Zhp (P:=P) st hE o op T yT x y ho
 obtain⟨h1,_⟩:=Zb st hE x
 obtain⟨g1,_⟩:=Zb st hE y
 unfold planBinI
 split
 ·rename_i t ds e1 e2
  rw [e1] at h1
  rw [e2] at g1
  have ey:=Zd g1
  have h1':Den w (Stay w0 I0 mem bs w) (a.eval x) (.iface t ds):=h1
  intro r ⟨b,hr,hrun⟩
  subst hr
  generalize hrv:a.eval x=rv at h1'
  cases h1' with
  |iface _ vl _ hvl hvd=>
   refine Za (.bool b) ?_ (Zc st (Den.v _ rfl) (fun p hp=>by simp [one,AV.hs,S.hs,C.hs] at hp))
   have:=hrun w vl.toArray
   simp only [execOp,ho,hrv,ey]
   simp only [Sem.run_bind,Sem.run_pure] at this ⊢
   rw [this]
   rfl
 ·exact base
def planBinR (P:Program) (env:Env) (mem:Mem) (op:BinOp) (T:TypeId) (x y:Operand):Plan:=
 match opd env x,opd env y with
 | .val (.one (.row o k)),.val (.one (.d (.v (.slice none 0 0))))=>match mem o with
  | .row _ _ k' xs true=>bif Nat.beq k k' then (match op with
   | .eql=> .ask fun r=>(∃ e,P.underlying T=some (.slice e))∧xs≠ []∧r=one (.bool false)
   | .neq=> .ask fun r=>(∃ e,P.underlying T=some (.slice e))∧xs≠ []∧r=one (.bool true)
   |_=> .bad) else .bad
  |_=> .bad
 |_,_=>planBinI P env op T x y
theorem ZgG (st:St w0 I0 nt env mem bs a w) (hE:∀ t,env' t= .junk∨env' t=env t) (hM:∀ o,mem' o= .gone∨mem' o=mem o) (o:Oper) (op:BinOp) (T yT:TypeId) (x y:Operand) (ho:o.op= .binOp op T x y yT):SoundPlan P w0 I0 nt env mem a w o (planBinR P env' mem' op T x y):=by
 have base:=ZgH (P:=P) st hE o op T yT x y ho
 obtain⟨h1,_⟩:=Zb st hE x
 obtain⟨g1,_⟩:=Zb st hE y
 unfold planBinR
 split
 ·rename_i q k e1 e2
  rw [e1] at h1
  rw [e2] at g1
  have ey:=Zd g1
  split
  ·rename_i T' n k' xs hm
   have hm1:mem q= .row T' n k' xs true:=by
    rcases hM q with h|h
    ·rw [h] at hm;simp at hm
    ·rw [← h];exact hm
   cases hk:Nat.beq k k' with
   |false=>trivial
   |true=>
    obtain rfl:=Nat.eq_of_beq_eq_true hk
    have hob:=st.obs q
    rw [hm1] at hob
    obtain⟨ys,hown,_⟩:=hob
    have ex1:a.eval x=bs q:=h1.2 _ _ _ _ hm1
    have hs:xs≠ []→∃ g cap,a.eval x= .slice (some ⟨g,0,none⟩) xs.length cap:=fun hne=>by
     rcases hown.2 with ⟨_,h0⟩|⟨g,cap,_,hv,_⟩
     ·exact absurd (List.eq_nil_of_length_eq_zero h0) hne
     ·exact⟨g,cap,ex1.trans hv⟩
    simp only [cond_true]
    split
    ·intro r ⟨⟨e,hT⟩,hne,hr⟩
     subst hr
     obtain⟨b,cap,ex⟩:=hs hne
     refine Za _ ?_ (Zc st (Den.v _ rfl) (fun p hp=>by simp [one,AV.hs,S.hs,C.hs] at hp))
     simp [execOp,ho,ex,ey,eqGuard,binOp,run_equal_slice_nil w T e _ _ _ hT]
    ·intro r ⟨⟨e,hT⟩,hne,hr⟩
     subst hr
     obtain⟨b,cap,ex⟩:=hs hne
     refine Za _ ?_ (Zc st (Den.v _ rfl) (fun p hp=>by simp [one,AV.hs,S.hs,C.hs] at hp))
     simp [execOp,ho,ex,ey,eqGuard,binOp,run_equal_slice_nil w T e _ _ _ hT]
    ·trivial
  ·trivial
 ·exact base
def planNilCheck (env:Env) (x:Operand):Plan:=
 match opd env x with
 | .val (.one (.ref cs))=> .ret (.val (.one (.ref cs)))
 | .val (.one (.ptr o i))=> .ret (.val (.one (.ptr o i)))
 |_=> .bad
theorem ZcL (st:St w0 I0 nt env mem bs a w) (hE:∀ t,env' t= .junk∨env' t=env t) (o:Oper) (x:Operand) (ho:o.op= .nilCheck x):SoundPlan P w0 I0 nt env mem a w o (planNilCheck env' x):=by
 obtain⟨h1,h1h⟩:=Zb st hE x
 unfold planNilCheck
 split
 ·rename_i cs hx
  rw [hx] at h1
  have h2:=h1
  obtain⟨b,off,_,ex,_⟩:=h2
  refine Za (a.eval x) ?_ (Zc st h1 (fun p hp=>by simp [AV.hs,S.hs,C.hs] at hp))
  simp [execOp,ho,ex]
 ·rename_i q i hx
  rw [hx] at h1 h1h
  have h2:=h1
  obtain⟨b,_,ex⟩:=h2
  refine Za (a.eval x) ?_ (Zc st h1 h1h)
  simp [execOp,ho,ex]
 ·trivial
def refsK {β:Type} (env:Env):List Operand→(List (List D)→β)→β→β
 | [],k,_=>k []
 |x :: r,k,bad=>match opd env x with
  | .val (.one (.ref cs))=>refsK env r (fun l=>k (cs :: l)) bad
  |_=>bad
theorem Zc4 {β:Type} (st:St w0 I0 nt env mem bs a w) (hE:∀ t,env' t= .junk∨env' t=env t):∀ (xs:List Operand) (k:List (List D)→β) (bad:β),
  (∃ css,refsK env' xs k bad=k css∧Rel2 (fun y cs=>DenC w (Stay w0 I0 mem bs w) bs mem y (.ref cs)) (xs.map a.eval) css)∨refsK env' xs k bad=bad
 | [],k,bad=> .inl ⟨[],rfl,Rel2.nil⟩
 |x :: r,k,bad=>by
  obtain⟨h1,_⟩:=Zb st hE x
  unfold refsK
  split
  ·rename_i cs hx
   rw [hx] at h1
   rcases Zc4 st hE r (fun l=>k (cs :: l)) bad with ⟨css,e,h2⟩|e
   ·exact .inl ⟨cs :: css,e,h2.cons h1⟩
   ·exact .inr e
  ·exact .inr rfl
theorem Zlc {I:Nat→Prop}:∀ {ys:List Value} {caps:List (List D)},Rel2 (fun y cs=>DenC w I bs mem y (.ref cs)) ys caps→
  ∃ (pb po:Nat→Nat) (c:Nat→Nat→Value),ys=(List.range caps.length).map (fun i=>Value.pointer (some ⟨pb i,po i,none⟩))∧(∀ i,i< caps.length→I (pb i))∧
   (∀ (i j:Nat) (r:List D),caps[i]? =some r→j< r.length→w.cell? ⟨pb i,po i+j,none⟩=some (c i j))∧∀ (i j:Nat) (r:List D) (d:D),caps[i]? =some r→r[j]? =some d→Den w I (c i j) d:=by
 intro ys caps h
 have hv:∀ i,∃ (b off:Nat) (c:Nat→Value),i< caps.length→(ys[i]? =some (.pointer (some ⟨b,off,none⟩))∧I b∧∀ (r:List D),caps[i]? =some r→(∀ j,j< r.length→w.cell? ⟨b,off+j,none⟩=some (c j))∧∀ (j:Nat) (d:D),r[j]? =some d→Den w I (c j) d):=by
  intro i
  by_cases hi:i< caps.length
  ·obtain⟨y,hy,b,off,hb,rfl,hcs⟩:=h.get (List.getElem?_eq_getElem hi)
   refine⟨b,off,fun j=>(w.cell? ⟨b,off+j,none⟩).getD undef,fun _=>⟨hy,hb,fun r hr=> ?_⟩⟩
   rw [List.getElem?_eq_getElem hi] at hr
   obtain rfl:=Option.some.inj hr
   refine⟨fun j hj=> ?_,fun j d hd=> ?_⟩
   ·obtain⟨z,hz,_⟩:=hcs j _ (List.getElem?_eq_getElem hj)
    show w.cell? _=some ((w.cell? ⟨b,off+j,none⟩).getD undef)
    rw [hz];rfl
   ·obtain⟨z,hz,hd'⟩:=hcs j d hd
    show Den w I ((w.cell? ⟨b,off+j,none⟩).getD undef) d
    rw [hz];exact hd'
  ·exact⟨0,0,fun _=>undef,fun h=>absurd h hi⟩
 refine⟨fun i=>(hv i).choose,fun i=>(hv i).choose_spec.choose,fun i=>(hv i).choose_spec.choose_spec.choose,?_,fun i hi=> ?_,fun i j r hr hj=> ?_,fun i j r d hr hd=> ?_⟩
 ·refine List.ext_getElem? fun i=> ?_
  by_cases hi:i< caps.length
  ·rw [List.getElem?_map,List.getElem?_range hi]
   exact((hv i).choose_spec.choose_spec.choose_spec hi).1
  ·rw [List.getElem?_eq_none (by rw [h.1];omega),List.getElem?_eq_none (by simp;omega)]
 ·exact((hv i).choose_spec.choose_spec.choose_spec hi).2.1
 ·exact(((hv i).choose_spec.choose_spec.choose_spec (List.getElem?_eq_some_iff.1 hr).1).2.2 r hr).1 j hj
 ·exact(((hv i).choose_spec.choose_spec.choose_spec (List.getElem?_eq_some_iff.1 hr).1).2.2 r hr).2 j d hd
def argV {β:Type} (env:Env):List Operand→(List Value→β)→β→β
 | [],k,_=>k []
 |x :: r,k,bad=>match opd env x with
  | .val (.one (.d (.v y)))=>argV env r (fun l=>k (y :: l)) bad
  |_=>bad
theorem Zdl {β:Type} (st:St w0 I0 nt env mem bs a w) (hE:∀ t,env' t= .junk∨env' t=env t):∀ (xs:List Operand) (k:List Value→β) (bad:β),argV env' xs k bad=k (xs.map a.eval)∨argV env' xs k bad=bad
 | [],k,bad=> .inl rfl
 |x :: r,k,bad=>by
  obtain⟨h1,_⟩:=Zb st hE x
  unfold argV
  split
  ·rename_i y hx
   rw [hx] at h1
   rcases Zdl st hE r (fun l=>k (y :: l)) bad with e|e
   ·exact .inl (by rw [e,← Zd h1];rfl)
   ·exact .inr e
  ·exact .inr rfl
def planCallX (P:Program) (env:Env) (f:Operand) (xs:List Operand):Plan:=
 match opd env f with
 | .val (.one (.d (.v (.func (.func g) first cap))))=>match first.toList,cap.toList with
  | [], []=>argV env xs (fun vs=> .ask (fun r=>∃ x,flat x=true∧r=one x∧∀ w,(callFunc g vs.toArray).run P w= .ok (.value x) w)) .bad
  |_,_=> .bad
 |_=> .bad
theorem ZeT (st:St w0 I0 nt env mem bs a w) (hE:∀ t,env' t= .junk∨env' t=env t)
  (o:Oper) (f:Operand) (xs:List Operand) (ts:Array TypeId) (ho:o.op= .call { callee:= .value f,args:=⟨xs⟩,argTypes:=ts }):SoundPlan P w0 I0 nt env mem a w o (planCallX P env' f xs):=by
 obtain⟨h1,_⟩:=Zb st hE f
 unfold planCallX
 split
 ·rename_i g first cap hf
  rw [hf] at h1
  have ef:=Zd h1
  split
  ·rename_i e1 e2
   have e1':first=#[]:=by cases first;simpa using e1
   have e2':cap=#[]:=by cases cap;simpa using e2
   subst e1' e2'
   rcases Zdl st hE xs (fun vs=>Plan.ask (fun r=>∃ x,flat x=true∧r=one x∧∀ w,(callFunc g vs.toArray).run P w= .ok (.value x) w)) Plan.bad with e|e
   ·rw [e]
    rintro r ⟨x,hx,rfl,hrun⟩
    refine Za x ?_ (Zc st (Den.v x hx) (fun p hp=>by simp [one,AV.hs,S.hs,C.hs] at hp))
    have hr:=hrun w
    simp only [execOp,ho,resolve,ef,Deferred.ofValue,Sem.run_bind,Sem.run_pure,Result.andThen_ok,invoke]
    simpa using hr
   ·rw [e];trivial
  ·trivial
 ·trivial
def planMakeFunc (env:Env) (fn:Fn) (first caps:List Operand):Plan:=
 match fn with
 | .func g=>match first with
  | []=>refsK env caps (fun css=> .ret (.val (.one (.d (.fn g css))))) .bad
  |_=> .bad
 |_=> .bad
theorem ZcM (st:St w0 I0 nt env mem bs a w) (hE:∀ t,env' t= .junk∨env' t=env t) (o:Oper) (fn:Fn) (first caps:Array Operand) (ho:o.op= .makeFunc fn first caps):
  SoundPlan P w0 I0 nt env mem a w o (planMakeFunc env' fn first.toList caps.toList):=by
 unfold planMakeFunc
 split
 ·rename_i g
  split
  ·rename_i hf
   have hf':first=#[]:=by cases first;simpa using hf
   rcases Zc4 st hE caps.toList (fun css=>Plan.ret (.val (.one (.d (.fn g css))))) Plan.bad with ⟨css,e,hr⟩|e
   ·rw [e]
    obtain⟨pb,po,c,e1,h1,h2,h3⟩:=Zlc (w:=w) (bs:=bs) (mem:=mem) hr
    refine Za (.func (.func g) #[] (caps.toList.map a.eval).toArray) ?_ (Zc st ?_ (fun p hp=>by simp [AV.hs,S.hs,C.hs] at hp))
    ·have e2:(caps.toList.map a.eval).toArray=caps.map a.eval:=by apply Array.toList_inj.1;simp
     rw [e2]
     simp [execOp,ho,hf',Instr.makeFunc]
    ·rw [e1];exact Den.fn g css pb po c h1 h2 h3
   ·rw [e];trivial
  ·trivial
 ·trivial
end
section
variable {P : Program} {G : World → Prop} {w0 : Base} {I0 : Nat → Prop} {nt : Shape} {env env' : Env} {mem mem' : Mem} {bs : Bs} {a : Act} {w : World}
def Base.less (w:World) (x:Value):Base:=⟨w,fun b=>b< w.heap.size∧blk x≠some b,fun _ h=>h.1,fun _=>x⟩
def memT (T n:Nat) (xs:List (List D)):Mem:=fun o=>bif Nat.beq o 1000 then .row T n 0 xs true else .gone
def SpecT (P:Program) (G:World→Prop) (f:FuncId) (args:List AV) (T n:Nat) (xs:List (List D)) (T' n':Nat) (ys:List (List D)):Prop:=
 Enters P f∧∀ (w:World) (I:Nat→Prop) (vs:List Value) (x:Value),(∀ w',Bel (Base.less w x).K w w'→G w')→(∀ b,I b→b< w.heap.size∧blk x≠some b)→
  ObOk (Base.less w x) w I noBs noMem x (.row T n 0 xs true)→Rel2 (fun y av=>DenAV w I (fun _=>x) (memT T n xs) y av) vs args→
  Calls P f vs.toArray w fun e w'=>∃ y,e= .returned y∧ObOk (Base.less w x) w' (fun b=>(I b∨(¬ (Base.less w x).K b∧b< w'.heap.size))∧blk y≠some b) noBs noMem y (.row T' n' 0 ys true)∧Bel (Base.less w x).K w w'
def SpecL (P:Program) (G:World→Prop) (f:FuncId) (args:List AV) (T n:Nat) (xs:List (List D)) (r:AV):Prop:=
 Enters P f∧∀ (w:World) (I:Nat→Prop) (vs:List Value) (x:Value),(∀ w',Bel (Base.less w x).K w w'→G w')→(∀ b,I b→b< w.heap.size∧blk x≠some b)→
  ObOk (Base.less w x) w I noBs noMem x (.row T n 0 xs true)→Rel2 (fun y av=>DenAV w I (fun _=>x) (memT T n xs) y av) vs args→
  Calls P f vs.toArray w fun e w'=>∃ y,e= .returned y∧DenAV w' (fun b=>(I b∨(¬ (Base.less w x).K b∧b< w'.heap.size))∧blk x≠some b) noBs noMem y r∧
   ObOk (Base.less w x) w' (fun b=>(I b∨(¬ (Base.less w x).K b∧b< w'.heap.size))∧blk x≠some b) noBs noMem x (.row T n 0 xs true)∧Bel (Base.less w x).K w w'
def argTs {β:Type} (env:Env) (mem:Mem) (d v:Nat):List Operand→(List AV→β)→β→β
 | [],k,_=>k []
 |x :: r,k,bad=>match opd env x with
  | .val (.one (.row o v'))=>bif Nat.beq o d&&Nat.beq v' v then argTs env mem d v r (fun l=>k (.val (.one (.row 1000 0)) :: l)) bad else bad
  |y=>argAVa true mem y (fun z=>argTs env mem d v r (fun l=>k (z :: l)) bad) bad
theorem Zaf {β:Type} (st:St w0 I0 nt env mem bs a w) (hE:∀ t,env' t= .junk∨env' t=env t) (hM:∀ o,mem' o= .gone∨mem' o=mem o) {d v T n:Nat} {xs:List (List D)} (hd:mem d= .row T n v xs true):∀ (l:List Operand) (k:List AV→β) (bad:β),
  (∃ as,argTs env' mem' d v l k bad=k as∧Rel2 (fun y av=>DenAV w (Stay w0 I0 mem bs w) (fun _=>bs d) (memT T n xs) y av) (l.map a.eval) as)∨argTs env' mem' d v l k bad=bad
 | [],k,bad=> .inl ⟨[],rfl,Rel2.nil⟩
 |x :: r,k,bad=>by
  obtain⟨h1,_⟩:=Zb st hE x
  unfold argTs
  split
  ·rename_i o v' hx
   rw [hx] at h1
   cases hc:(Nat.beq o d&&Nat.beq v' v) with
   |false=>exact .inr rfl
   |true=>
    simp only [Bool.and_eq_true] at hc
    obtain rfl:=Nat.eq_of_beq_eq_true hc.1
    obtain rfl:=Nat.eq_of_beq_eq_true hc.2
    simp only [cond_true]
    rcases Zaf st hE hM hd r (fun l=>k (.val (.one (.row 1000 0)) :: l)) bad with ⟨as,e,f2⟩|e
    ·refine .inl ⟨_,e,f2.cons ?_⟩
     have hv:a.eval x=bs o:=h1.2 _ _ _ _ hd
     exact⟨h1.1,fun T' n' xs' own' hm=>hv⟩
    ·exact .inr e
  ·rcases Zal true st hM (opd env' x) (fun z=>argTs env' mem' d v r (fun l=>k (z :: l)) bad) bad with ⟨z,e,g1,g2⟩|e
   ·rcases Zaf st hE hM hd r (fun l=>k (z :: l)) bad with ⟨as,e',f2⟩|e'
    ·exact .inl ⟨z :: as,by rw [e,e'],f2.cons (g2 _ _ _ h1)⟩
    ·exact .inr (by rw [e,e'])
   ·exact .inr e
noncomputable def planCallT (P:Program) (G:World→Prop) (env:Env) (mem:Mem) (dst:Option Nat) (f:Operand) (xs:List Operand):Plan:=
 match ownArg env mem xs with
 |none=>planCallF true P G env mem dst f xs
 |some p=>match mem p.1 with
  | .row T n v ys true=>match opd env f with
   | .val (.one (.d (.v (.func (.func g) first cap))))=>match first.toList,cap.toList with
    | [], []=>argTs env mem p.1 v xs (fun as=> .askT p.1 (v+1) (fun T' n' zs=>SpecT P G g as T n ys T' n' zs)) .bad
    |_,_=> .bad
   |_=> .bad
  |_=> .bad
noncomputable def planCallL (P:Program) (G:World→Prop) (env:Env) (mem:Mem) (dst:Option Nat) (f:Operand) (xs:List Operand):Plan:=
 match ownArg env mem xs with
 |none=>planCallF true P G env mem dst f xs
 |some p=>match mem p.1 with
  | .row T n v ys true=>match opd env f with
   | .val (.one (.d (.v (.func (.func g) first cap))))=>match first.toList,cap.toList with
    | [], []=>argTs env mem p.1 v xs (fun as=> .ask (fun r=>r.hs= []∧SpecL P G g as T n ys r)) .bad
    |_,_=> .bad
   |_=> .bad
  |_=> .bad
theorem ZeV (hG:∀ w',Bel w0.K w w'→G w') (st:St w0 I0 nt env mem bs a w) (hE:∀ t,env' t= .junk∨env' t=env t) (hM:∀ o,mem' o= .gone∨mem' o=mem o)
  (o:Oper) (dst:Option Nat) (f:Operand) (xs:List Operand) (ts:Array TypeId) (ho:o.op= .call { callee:= .value f,args:=⟨xs⟩,argTypes:=ts }) (hD:∀ d,dst=some d→mem' d=mem d):SoundPlan P w0 I0 nt env mem a w o (planCallT P G env' mem' dst f xs):=by
 obtain⟨h1,_⟩:=Zb st hE f
 unfold planCallT
 split
 ·exact ZY true (hG w (Bel.refl _ _)) st hE hM o dst f xs ts ho hD
 ·rename_i p hp
  split
  ·rename_i T n v ys hm'
   have hm:mem p.1= .row T n v ys true:=by
    rcases hM p.1 with h|h
    ·rw [h] at hm';simp at hm'
    ·rw [← h];exact hm'
   split
   ·rename_i g first cap hf
    rw [hf] at h1
    have ef:=Zd h1
    split
    ·rename_i e1 e2
     have e1':first=#[]:=by cases first;simpa using e1
     have e2':cap=#[]:=by cases cap;simpa using e2
     subst e1' e2'
     rcases Zaf st hE hM hm xs (fun as=>Plan.askT p.1 (v+1) (fun T' n' zs=>SpecT P G g as T n ys T' n' zs)) Plan.bad with ⟨as,e,hl⟩|e
     ·rw [e]
      intro T' n' zs hspec
      have hob:=st.obs p.1
      rw [hm] at hob
      have hmut:(mem p.1).mut=true:=by rw [hm];rfl
      have hstay:∀ b,Stay w0 I0 mem bs w b→b< w.heap.size∧blk (bs p.1)≠some b:=by
       intro b hb
       rcases hb with ⟨g1,g2⟩|⟨g1,g2,g3⟩
       ·exact⟨st.ltK g2,fun hb=>(hob.block rfl b hb).1 g2⟩
       ·exact⟨g2,g3 p.1 hmut⟩
      have hKK:∀ b,w0.K b→(Base.less w (bs p.1)).K b:=fun b hb=>⟨st.ltK hb,fun h=>(hob.block rfl b h).1 hb⟩
      obtain⟨cs,hown,hn,hcl,hrow,hden⟩:=hob
      have hown2:ownsK (Base.less w (bs p.1)).K w T n (bs p.1) ys.length cs:=ZK hown.row fun k hk=>fun h=>h.2 (by
       rcases hown.2 with ⟨e3,_⟩|⟨g',cap',cur',e3,_⟩
       ·rw [e3] at hk;simp [Value.ownBlock] at hk
       ·rw [e3] at hk ⊢;simpa [blk,Value.ownBlock] using hk)
      have hc:=hspec.2 w (Stay w0 I0 mem bs w) (xs.map a.eval) (bs p.1) (fun w' hb=>hG w' ⟨hb.os,hb.tape,hb.output,hb.size,fun k hk=>hb.block k (hKK k hk)⟩) hstay
       ⟨cs,hown2,hn,hcl,hrow,hden⟩ hl
      refine ZD (f:=g) (args:=(xs.map a.eval).toArray) (w':=w) ?_ ?_
      ·have hrun:=hspec.1 (xs.map a.eval).toArray w
       simp only [execOp,ho,resolve,ef,Deferred.ofValue,Sem.run_bind,Sem.run_pure,Result.andThen_ok,invoke]
       simpa using hrun
      ·refine Calls.mono hc fun e w' ⟨y,he,⟨ds,hown',hn',hdl,hrow',hden'⟩,hb⟩=>⟨y,he,?_⟩
       have hb0:Bel w0.K w w':=⟨hb.os,hb.tape,hb.output,hb.size,fun k hk=>hb.block k (hKK k hk)⟩
       have hblky:∀ b,blk y=some b→y.ownBlock=some b:=by
        intro b hby
        rcases hown'.2 with ⟨rfl,_⟩|⟨g',cap',cur',rfl,_⟩
        ·simp [blk] at hby
        ·simpa [blk,Value.ownBlock] using hby
       have hk:∀ k,k< w.heap.size→((mem p.1).mut=true→blk (bs p.1)≠some k)→w'.heap[k]? =w.heap[k]? :=fun k hk hne=>hb.block k ⟨hk,hne hmut⟩
       have hx:∀ b,(Ob.row T' n' (v+1) zs true).mut=true→blk y=some b→((mem p.1).mut=true∧blk (bs p.1)=some b)∨(w.heap.size≤b∧b< w'.heap.size):=by
        intro b _ hby
        have hnk:=hown'.not (hblky b hby)
        have hlt:=hown'.lt (hblky b hby)
        by_cases hlt2:b< w.heap.size
        ·by_cases hbb:blk (bs p.1)=some b
         ·exact .inl ⟨hmut,hbb⟩
         ·exact absurd ⟨hlt2,hbb⟩ hnk
        ·exact .inr ⟨Nat.le_of_not_lt hlt2,hlt⟩
       have hv:Turns mem bs p.1 (.row T' n' (v+1) zs true) y:= .inr (.inr (.inl ⟨T,n,v,ys,true,T',n',v+1,zs,true,hm,rfl,Nat.le_succ _,fun e=>by omega⟩))
       have K:=st.keeps p.1 (.row T' n' (v+1) zs true) y hb0 hk hx hv
       have hst:∀ b,(Stay w0 I0 mem bs w b∨(¬ (Base.less w (bs p.1)).K b∧b< w'.heap.size))∧blk y≠some b→Stay w0 I0 (upd mem p.1 (.row T' n' (v+1) zs true)) (upd bs p.1 y) w' b:=by
        rintro b ⟨h|⟨h1,h2⟩,hne⟩
        ·exact(K.stay b h).1
        ·refine .inr ⟨fun hk0=>h1 (hKK b hk0),h2,fun o' hm' hbo=> ?_⟩
         by_cases e5:o'=p.1
         ·subst e5;rw [Ze] at hbo;exact hne hbo
         ·rw [Zw _ _ e5] at hm' hbo
          have hlt:=((st.obs o').block hm' b hbo).2
          exact h1 ⟨hlt,fun h=>e5 (st.sep o' p.1 b hm' hmut hbo h)⟩
       refine⟨upd bs p.1 y,st.update p.1 _ y hb0 hk hx hv rfl (fun q hq=>by simp [Ob.hs] at hq) ?_,⟨?_,fun T2 n2 xs2 own2 hm2=> ?_⟩,fun q hq=> ?_⟩
       ·refine⟨ds,ZK hown'.row fun k hk0=>fun hk1=>hown'.not hk0 (hKK k hk1),hn',hdl,hrow',fun i j r d hi hj=> ?_⟩
        obtain⟨z,hz,hd⟩:=hden' i j r d hi hj
        exact⟨z,hz,Den.mono (fun b hb'=>⟨hst b hb',rfl⟩) hd⟩
       ·rcases hown'.2 with ⟨rfl,_⟩|⟨g',cap',cur',rfl,_⟩<;>rfl
       ·rw [Ze]
       ·have:q=(p.1,v+1):=by simpa [AV.hs,S.hs,C.hs] using hq
        subst this
        exact⟨by simp only [Ze];rfl,by simp only [Ze];exact Nat.le_refl _⟩
     ·rw [e];trivial
    ·trivial
   ·trivial
  ·trivial
theorem ZeY (hG:∀ w',Bel w0.K w w'→G w') (st:St w0 I0 nt env mem bs a w) (hE:∀ t,env' t= .junk∨env' t=env t) (hM:∀ o,mem' o= .gone∨mem' o=mem o)
  (o:Oper) (dst:Option Nat) (f:Operand) (xs:List Operand) (ts:Array TypeId) (ho:o.op= .call { callee:= .value f,args:=⟨xs⟩,argTypes:=ts }) (hD:∀ d,dst=some d→mem' d=mem d):SoundPlan P w0 I0 nt env mem a w o (planCallL P G env' mem' dst f xs):=by
 obtain⟨h1,_⟩:=Zb st hE f
 unfold planCallL
 split
 ·exact ZY true (hG w (Bel.refl _ _)) st hE hM o dst f xs ts ho hD
 ·rename_i p hp
  split
  ·rename_i T n v ys hm'
   have hm:mem p.1= .row T n v ys true:=by
    rcases hM p.1 with h|h
    ·rw [h] at hm';simp at hm'
    ·rw [← h];exact hm'
   split
   ·rename_i g first cap hf
    rw [hf] at h1
    have ef:=Zd h1
    split
    ·rename_i e1 e2
     have e1':first=#[]:=by cases first;simpa using e1
     have e2':cap=#[]:=by cases cap;simpa using e2
     subst e1' e2'
     rcases Zaf st hE hM hm xs (fun as=>Plan.ask (fun r=>r.hs= []∧SpecL P G g as T n ys r)) Plan.bad with ⟨as,e,hl⟩|e
     ·rw [e]
      intro r ⟨hrh,hspec⟩
      have hob:=st.obs p.1
      rw [hm] at hob
      have hmut:(mem p.1).mut=true:=by rw [hm];rfl
      have hstay:∀ b,Stay w0 I0 mem bs w b→b< w.heap.size∧blk (bs p.1)≠some b:=by
       intro b hb
       rcases hb with ⟨g1,g2⟩|⟨g1,g2,g3⟩
       ·exact⟨st.ltK g2,fun hb=>(hob.block rfl b hb).1 g2⟩
       ·exact⟨g2,g3 p.1 hmut⟩
      have hKK:∀ b,w0.K b→(Base.less w (bs p.1)).K b:=fun b hb=>⟨st.ltK hb,fun h=>(hob.block rfl b h).1 hb⟩
      obtain⟨cs,hown,hn,hcl,hrow,hden⟩:=hob
      have hown2:ownsK (Base.less w (bs p.1)).K w T n (bs p.1) ys.length cs:=ZK hown.row fun k hk=>fun h=>h.2 (by
       rcases hown.2 with ⟨e3,_⟩|⟨g',cap',cur',e3,_⟩
       ·rw [e3] at hk;simp [Value.ownBlock] at hk
       ·rw [e3] at hk ⊢;simpa [blk,Value.ownBlock] using hk)
      have hc:=hspec.2 w (Stay w0 I0 mem bs w) (xs.map a.eval) (bs p.1) (fun w' hb=>hG w' ⟨hb.os,hb.tape,hb.output,hb.size,fun k hk=>hb.block k (hKK k hk)⟩) hstay
       ⟨cs,hown2,hn,hcl,hrow,hden⟩ hl
      refine ZD (f:=g) (args:=(xs.map a.eval).toArray) (w':=w) ?_ ?_
      ·have hrun:=hspec.1 (xs.map a.eval).toArray w
       simp only [execOp,ho,resolve,ef,Deferred.ofValue,Sem.run_bind,Sem.run_pure,Result.andThen_ok,invoke]
       simpa using hrun
      ·refine Calls.mono hc fun e w' ⟨y,he,hy,⟨ds,hown',hn',hdl,hrow',hden'⟩,hb⟩=>⟨y,he,?_⟩
       have hb0:Bel w0.K w w':=⟨hb.os,hb.tape,hb.output,hb.size,fun k hk=>hb.block k (hKK k hk)⟩
       have hk:∀ k,k< w.heap.size→((mem p.1).mut=true→blk (bs p.1)≠some k)→w'.heap[k]? =w.heap[k]? :=fun k hk hne=>hb.block k ⟨hk,hne hmut⟩
       have hx:∀ b,(Ob.row T n v ys true).mut=true→blk (bs p.1)=some b→((mem p.1).mut=true∧blk (bs p.1)=some b)∨(w.heap.size≤b∧b< w'.heap.size):=fun b _ hby=> .inl ⟨hmut,hby⟩
       have hv:Turns mem bs p.1 (.row T n v ys true) (bs p.1):= .inr (.inr (.inl ⟨T,n,v,ys,true,T,n,v,ys,true,hm,rfl,Nat.le_refl _,fun _=>⟨rfl,rfl⟩⟩))
       have em:upd mem p.1 (.row T n v ys true)=mem:=by rw [← hm];exact Zaw _ _
       have eb:upd bs p.1 (bs p.1)=bs:=Zaw _ _
       have K:=st.keeps p.1 (.row T n v ys true) (bs p.1) hb0 hk hx hv
       rw [em,eb] at K
       have hst:∀ b,(Stay w0 I0 mem bs w b∨(¬ (Base.less w (bs p.1)).K b∧b< w'.heap.size))∧blk (bs p.1)≠some b→Stay w0 I0 mem bs w' b:=by
        rintro b ⟨h|⟨h1,h2⟩,hne⟩
        ·exact(K.stay b h).1
        ·refine .inr ⟨fun hk0=>h1 (hKK b hk0),h2,fun o' hm' hbo=> ?_⟩
         have hlt:=((st.obs o').block hm' b hbo).2
         exact h1 ⟨hlt,hne⟩
       have st':=st.update p.1 (.row T n v ys true) (bs p.1) hb0 hk hx hv rfl (fun q hq=>by simp [Ob.hs] at hq) (by
        refine⟨ds,ZK hown'.row fun k hk0=>fun hk1=>hown'.not hk0 (hKK k hk1),hn',hdl,hrow',fun i j r d hi hj=> ?_⟩
        obtain⟨z,hz,hd⟩:=hden' i j r d hi hj
        exact⟨z,hz,Den.mono (fun b hb'=>⟨by rw [em,eb];exact hst b hb',rfl⟩) hd⟩)
       rw [em,eb] at st'
       have K2:Keeps w' (fun b=>(Stay w0 I0 mem bs w b∨(¬ (Base.less w (bs p.1)).K b∧b< w'.heap.size))∧blk (bs p.1)≠some b) noBs noMem w' (Stay w0 I0 mem bs w') bs mem (fun _=>False):=⟨fun b hb=>⟨hst b hb,rfl⟩,fun _ _ h=>h.elim,fun _ _ _ _ _ _ h=>h.elim⟩
       exact⟨bs,st',K2.av (fun o ho=>by rw [hrh] at ho;simp at ho) hy,fun q hq=>by rw [hrh] at hq;simp at hq⟩
     ·rw [e];trivial
    ·trivial
   ·trivial
  ·trivial
end
section
variable {P : Program} {G : World → Prop} {w0 : Base} {I0 : Nat → Prop} {nt : Shape} {env env' : Env} {mem mem' : Mem} {bs : Bs} {a : Act} {w : World}
theorem Zgz (st:St w0 I0 nt env mem bs a w) {b T0 n v:Nat} {xs xs':List (List D)} (hb:mem b= .row T0 n v xs true) {g m c:Nat} (hg:bs b= .slice (some ⟨g,0,none⟩) m c) {off:Nat} {vs:List Value} {w':World} {cur:Array Value}
  (hcur:w.heap[g]? =some (.cells cur T0 (0,0))) (hrow:Row w' g T0 (repl cur.toList off vs)) (hbut:But g w w') (hin:off+vs.length≤xs.length*n) (hl:xs'.length=xs.length) (hr:∀ r,r∈xs'→r.length=n)
  (hd:∀ ys:List Value,ys.length=xs.length*n→(∀ (i j:Nat) (r:List D) (d:D),xs[i]? =some r→r[j]? =some d→∃ y,ys[i*n+j]? =some y∧Den w (Stay w0 I0 mem bs w) y d)→
   ∀ (i j:Nat) (r:List D) (d:D),xs'[i]? =some r→r[j]? =some d→∃ y,(repl ys off vs)[i*n+j]? =some y∧Den w (Stay w0 I0 mem bs w) y d):
  St w0 I0 nt env (upd mem b (.row T0 n v xs' true)) (upd bs b (bs b)) a w':=by
 have hob:=st.obs b
 rw [hb] at hob
 obtain⟨ys,hown,hn0,hyl,hxl,hdd⟩:=hob
 rcases hown.2 with ⟨e5,_⟩|⟨g',cap,cur',e5,e6,e7,e8,e9,e10,e11⟩
 ·rw [hg] at e5;simp at e5
 ·rw [hg] at e5
  simp only [Value.slice.injEq,Option.some.injEq,Addr.mk.injEq,and_true] at e5
  obtain⟨rfl,rfl,rfl⟩:=e5
  rw [hcur] at e7
  simp only [Option.some.injEq,Obj.cells.injEq,and_true] at e7
  subst e7
  have hcap:xs.length*n≤c*n:=Nat.mul_le_mul_right _ e8
  have hbel:Bel w0.K w w':=hbut.bel e6
  have hblkb:blk (bs b)=some g:=by rw [hg];rfl
  have hk:∀ k,k< w.heap.size→((mem b).mut=true→blk (bs b)≠some k)→w'.heap[k]? =w.heap[k]? :=by
   intro k _ hne
   refine hbut.block k (fun e=> ?_)
   subst e
   exact hne (by rw [hb];rfl) hblkb
  have hxx:∀ q,(Ob.row T0 n v xs' true).mut=true→blk (bs b)=some q→((mem b).mut=true∧blk (bs b)=some q)∨(w.heap.size≤q∧q< w'.heap.size):=fun q _ hq=> .inl ⟨by rw [hb];rfl,hq⟩
  have hv:Turns mem bs b (.row T0 n v xs' true) (bs b):= .inr (.inr (.inl ⟨T0,n,v,xs,true,T0,n,v,_,true,hb,rfl,Nat.le_refl _,fun _=>⟨rfl,rfl⟩⟩))
  have K:=st.keeps b (.row T0 n v xs' true) (bs b) hbel hk hxx hv
  refine st.update b _ (bs b) hbel hk hxx hv rfl (fun p hp=>by simp [Ob.hs] at hp) ?_
  refine⟨repl ys off vs,⟨?_,.inr ⟨g,c,(repl cur.toList off vs).toArray,?_,e6,?_,?_,e9,?_,?_⟩⟩,hn0,?_,hr,?_⟩
  ·rw [ZE,hl];exact hyl
  ·rw [hg,hl]
  ·unfold Row at hrow;exact hrow
  ·rw [hl];exact e8
  ·simp [ZE,e10]
  ·simp only [hl]
   rw [ZdT _ _ _ _ hin,e11]
  ·rw [ZE,hl];exact hyl
  ·intro i j r d hi hj
   obtain⟨y,hy,hdy⟩:=hd ys hyl hdd i j r d hi hj
   exact⟨y,hy,Den.mono K.stay hdy⟩
def planSliceRs (TB:List (Nat×Ty)) (env:Env) (T:TypeId) (l:Operand) (o v T0 n v':Nat) (xs:List (List D)):Plan:=
 match look TB T with
 |some ty=>match ty.elem with
  |some e=>match look TB e with
   |some te=>bif Nat.beq v v'&&(Nat.beq T0 e&&Nat.beq n te.size) then intK (opd env l) (fun m=> .ask fun r=>0≤m∧m< (xs.length:Int)∧r= .val (.one (.rs o v n m.toNat))) .bad else .bad
   |none=> .bad
  |none=> .bad
 |none=> .bad
def planSliceX (P:Program) (TB:List (Nat×Ty)) (env:Env) (mem:Mem) (T:TypeId) (x:Operand) (lo hi mx:Option Operand):Plan:=
 match opd env x with
 | .val (.one (.row o v))=>match mem o with
  | .row T0 n v' xs true=>match lo,hi,mx with
   |some l,none,none=>planSliceRs TB env T l o v T0 n v' xs
   |_,_,_=>planSliceS P TB env mem T x lo hi mx
  |_=>planSliceS P TB env mem T x lo hi mx
 |_=>planSliceS P TB env mem T x lo hi mx
theorem ZdY {TB:List (Nat×Ty)} (hTB:TBok P TB) (st:St w0 I0 nt env mem bs a w) (hE:∀ t,env' t= .junk∨env' t=env t) (hM:∀ o,mem' o= .gone∨mem' o=mem o)
  (o:Oper) (T:TypeId) (x:Operand) (lo hi mx:Option Operand) (ho:o.op= .slice T x lo hi mx):SoundPlan P w0 I0 nt env mem a w o (planSliceX P TB env' mem' T x lo hi mx):=by
 have base:=ZdZ (P:=P) hTB st hE hM o T x lo hi mx ho
 unfold planSliceX
 split
 ·rename_i ob v hx
  split
  ·rename_i T0 n v' xs hb
   split
   ·rename_i l
    obtain⟨h1,h2⟩:=Zb st hE x
    rw [hx] at h1 h2
    have hb':mem ob= .row T0 n v' xs true:=by
     rcases hM ob with h|h
     ·rw [h] at hb;simp at hb
     ·rw [← h];exact hb
    unfold planSliceRs
    split
    ·rename_i ty hty
     obtain⟨ti,tu,tz,hi'⟩:=Zh (hTB T ty (Zf hty))
     split
     ·rename_i e he
      split
      ·rename_i te hte
       obtain⟨ei,eu,ez,hei⟩:=Zh (hTB e te (Zf hte))
       have hu:=hi'.slice he
       cases hc:(Nat.beq v v'&&(Nat.beq T0 e&&Nat.beq n te.size)) with
       |false=>trivial
       |true=>
        simp only [Bool.and_eq_true] at hc
        obtain rfl:=Nat.eq_of_beq_eq_true hc.1
        obtain rfl:=Nat.eq_of_beq_eq_true hc.2.1
        have hn:=Nat.eq_of_beq_eq_true hc.2.2
        simp only [cond_true]
        rcases Zx (opd env' l) (fun m=>Plan.ask fun r=>0≤m∧m< (xs.length:Int)∧r= .val (.one (.rs ob v n m.toNat))) Plan.bad with ⟨kd,m,ev,e1⟩|e1
        ·rw [e1]
         intro r ⟨b1,b2,hr⟩
         subst hr
         obtain⟨g1,_⟩:=Zb st hE l
         rw [ev] at g1
         have em:=Zd g1
         have ex:a.eval x=bs ob:=h1.2 _ _ _ _ hb'
         have hob:=st.obs ob
         rw [hb'] at hob
         obtain⟨ys,hown,hn0,hyl,hxl,hdd⟩:=hob
         rcases hown.2 with ⟨e2,e3⟩|⟨g,cap,cur,e2,e3,e4,e5,e6,e7,e8⟩
         ·omega
         ·have hle:0≤m∧m≤(xs.length:Int):=⟨b1,by omega⟩
          have hne:¬ cap=m.toNat:=by omega
          refine Za (.slice (some ⟨g,m.toNat*n,none⟩) (xs.length - m.toNat) (cap - m.toNat)) ?_ (Zc st ⟨rfl,fun T xs' own hm'=>⟨g,xs.length,cap,e2,by omega,rfl⟩⟩ (fun p hp=>h2 p (by simpa [AV.hs,S.hs,C.hs] using hp)))
          have hrun:(Instr.sliceAt T (.slice (some ⟨g,0,none⟩) xs.length cap) (some (.int kd m)) none none).run P w= .ok (.slice (if cap=m.toNat then some ⟨g,0,none⟩ else (some (⟨g,0,none⟩:Addr)).map (·.add (m.toNat*te.size))) (xs.length - m.toNat) (cap - m.toNat)) w:=by
           simp [Instr.sliceAt,Instr.slice,run_underlying hu,Instr.sliceBounds,Instr.sliceBound,asIntOf,hle,hei.run_size]
          rw [if_neg hne] at hrun
          simp only [Option.map_some,Addr.add_lit,Nat.zero_add,← hn] at hrun
          simp only [execOp,ho,ex,e2,em,Option.map_some,Option.map_none,Sem.run_bind,hrun,Result.andThen_ok,Sem.run_pure]
        ·rw [e1];trivial
      ·trivial
     ·trivial
    ·trivial
   ·exact base
  ·exact base
 ·exact base
def planIndexRs (TB:List (Nat×Ty)) (env:Env) (T:TypeId) (i:Operand) (o v n i0 n' v':Nat) (xs:List (List D)):Plan:=
 match look TB T with
 |some ty=>match ty.arr,ty.elem with
  |none,some e=>match look TB e with
   |some te=>bif Nat.beq v v'&&(Nat.beq n n'&&Nat.beq n te.size) then intK (opd env i) (fun m=> .ask fun r=>0≤m∧(i0:Int)+m< (xs.length:Int)∧r= .val (.one (.rp o v n (i0+m.toNat) 0))) .bad else .bad
   |none=> .bad
  |_,_=> .bad
 |none=> .bad
def planIndexAddrX (TB:List (Nat×Ty)) (env:Env) (mem:Mem) (T:TypeId) (x i:Operand):Plan:=
 match opd env x with
 | .val (.one (.rs o v n i0))=>match mem o with
  | .row _ n' v' xs true=>planIndexRs TB env T i o v n i0 n' v' xs
  |_=> .bad
 |_=>planIndexAddrG TB env mem T x i
theorem ZbW {TB:List (Nat×Ty)} (hTB:TBok P TB) (st:St w0 I0 nt env mem bs a w) (hE:∀ t,env' t= .junk∨env' t=env t) (hM:∀ o,mem' o= .gone∨mem' o=mem o)
  (o:Oper) (T:TypeId) (x i:Operand) (ho:o.op= .indexAddr T x i):SoundPlan P w0 I0 nt env mem a w o (planIndexAddrX TB env' mem' T x i):=by
 unfold planIndexAddrX
 split
 ·rename_i ob v n i0 hx
  split
  ·rename_i T0 n' v' xs hb
   obtain⟨h1,h2⟩:=Zb st hE x
   rw [hx] at h1 h2
   have hb':mem ob= .row T0 n' v' xs true:=by
    rcases hM ob with h|h
    ·rw [h] at hb;simp at hb
    ·rw [← h];exact hb
   unfold planIndexRs
   split
   ·rename_i ty hty
    obtain⟨ti,tu,tz,hi⟩:=Zh (hTB T ty (Zf hty))
    split
    ·rename_i e har he
     split
     ·rename_i te hte
      obtain⟨ei,eu,ez,hei⟩:=Zh (hTB e te (Zf hte))
      cases hc:(Nat.beq v v'&&(Nat.beq n n'&&Nat.beq n te.size)) with
      |false=>trivial
      |true=>
       simp only [Bool.and_eq_true] at hc
       obtain rfl:=Nat.eq_of_beq_eq_true hc.1
       obtain rfl:=Nat.eq_of_beq_eq_true hc.2.1
       have hn:=Nat.eq_of_beq_eq_true hc.2.2
       simp only [cond_true]
       rcases Zx (opd env' i) (fun m=>Plan.ask fun r=>0≤m∧(i0:Int)+m< (xs.length:Int)∧r= .val (.one (.rp ob v n (i0+m.toNat) 0))) Plan.bad with ⟨kd,m,g1,g2⟩|g2
       ·rw [g2]
        intro r ⟨h0,hm,hr⟩
        subst hr
        obtain⟨f1,_⟩:=Zb st hE i
        rw [g1] at f1
        have em:=Zd f1
        obtain⟨b,m0,c0,ebs,him,ex⟩:=h1.2 _ _ _ hb'
        have hob:=st.obs ob
        rw [hb'] at hob
        obtain⟨ys,hown,hn0,hyl,hxl,hdd⟩:=hob
        rcases hown.2 with ⟨e1,e2⟩|⟨g,cap,cur,e1,e3,e4,e5,e6,e7,e8⟩
        ·rw [ebs] at e1;simp at e1
        ·rw [ebs] at e1
         simp only [Value.slice.injEq,Option.some.injEq,Addr.mk.injEq,and_true] at e1
         obtain⟨rfl,rfl,rfl⟩:=e1
         have hle:0≤m∧m< ((xs.length - i0:Nat):Int):=⟨h0,by omega⟩
         refine Za (.pointer (some ⟨b,(i0+m.toNat)*n,none⟩)) ?_ (Zc st ⟨rfl,fun T xs' own hm'=>⟨b,xs.length,c0,ebs,by simp⟩⟩ (fun p hp=>h2 p (by simpa [AV.hs,S.hs,C.hs] using hp)))
         have hs:∀ w,(sizeOf e).run P w= .ok te.size w:=fun w=>hei.run_size w
         have hu:=hi.slice he
         have hrun:(Instr.indexAt T (.slice (some ⟨b,i0*n,none⟩) (xs.length - i0) (c0 - i0)) (.int kd m)).run P w= .ok (.pointer (some ⟨b,(i0+m.toNat)*n,none⟩)) w:=by
          simp only [Instr.indexAt,asIntOf,Sem.run_bind,Sem.run_pure,Result.andThen_ok,run_underlying hu]
          simp only [hle,and_self,if_true,Sem.run_bind,hs,Result.andThen_ok,Sem.run_pure,Addr.add_lit,← hn,Nat.add_mul]
         simp only [execOp,ho,ex,em,Sem.run_bind,hrun,Result.andThen_ok,Sem.run_pure]
       ·rw [g2];trivial
     ·trivial
    ·trivial
   ·trivial
  ·trivial
 ·exact ZbY (P:=P) hTB st hE hM o T x i ho
def planLenX (TB:List (Nat×Ty)) (env:Env) (mem:Mem) (ts:List TypeId) (xs:List Operand):Plan:=
 match xs,ts with
 | [x],t :: _=>match opd env x with
  | .val (.one (.rs o v n i0))=>match mem o,look TB t with
   | .row _ n' v' ys true,some ty=>match ty.str,ty.elem with
    |false,some _=>bif Nat.beq v v'&&Nat.beq n n' then .ret (one (.int .i64 ((ys.length - i0:Nat):Int))) else .bad
    |_,_=> .bad
   |_,_=> .bad
  |_=>planLen TB env mem ts xs
 |_,_=>planLen TB env mem ts xs
theorem ZgE {TB:List (Nat×Ty)} (hTB:TBok P TB) (st:St w0 I0 nt env mem bs a w) (hE:∀ t,env' t= .junk∨env' t=env t) (hM:∀ o,mem' o= .gone∨mem' o=mem o)
  (o:Oper) (xs:List Operand) (ts:List TypeId) (ho:o.op= .call { callee:= .builtin .len,args:=⟨xs⟩,argTypes:=⟨ts⟩ }):SoundPlan P w0 I0 nt env mem a w o (planLenX TB env' mem' ts xs):=by
 have base:=Zhm (P:=P) hTB st hE hM o xs ts ho
 unfold planLenX
 split
 ·rename_i x t ts'
  split
  ·rename_i ob v n i0 hx
   split
   ·rename_i T0 n' v' ys ty hb hty
    obtain⟨ti,tu,tz,hi⟩:=Zh (hTB t ty (Zf hty))
    split
    ·rename_i e hstr he
     obtain⟨h1,h2⟩:=Zb st hE x
     rw [hx] at h1 h2
     have hb':mem ob= .row T0 n' v' ys true:=by
      rcases hM ob with h|h
      ·rw [h] at hb;simp at hb
      ·rw [← h];exact hb
     cases hc:(Nat.beq v v'&&Nat.beq n n') with
     |false=>trivial
     |true=>
      simp only [Bool.and_eq_true] at hc
      obtain rfl:=Nat.eq_of_beq_eq_true hc.1
      obtain rfl:=Nat.eq_of_beq_eq_true hc.2
      simp only [cond_true]
      obtain⟨b,m0,c0,ebs,him,ex⟩:=h1.2 _ _ _ hb'
      have hob:=st.obs ob
      rw [hb'] at hob
      obtain⟨zs,hown,hn0,hyl,hxl,hdd⟩:=hob
      rcases hown.2 with ⟨e1,e2⟩|⟨g,cap,cur,e1,e3,e4,e5,e6,e7,e8⟩
      ·rw [ebs] at e1;simp at e1
      ·rw [ebs] at e1
       simp only [Value.slice.injEq,Option.some.injEq,Addr.mk.injEq,and_true] at e1
       obtain⟨rfl,rfl,rfl⟩:=e1
       have hu:=hi.slice he
       refine Za (.int .i64 ((ys.length - i0:Nat):Int)) (Zq ho ?_) (Zc st (Den.v _ rfl) (fun p hp=>by simp [one,AV.hs,S.hs,C.hs] at hp))
       have hr:=Zay (P:=P) (ts:=ts') (ty:=o.type) hu ex w
       simp only [builtin,Sem.run_bind,List.map_toArray,List.map_cons,List.map_nil,hr,Result.andThen_ok,Sem.run_pure]
    ·trivial
   ·trivial
  ·exact base
 ·exact base
def planClear (TB:List (Nat×Ty)) (env:Env) (mem:Mem) (ts:List TypeId) (xs:List Operand):Plan:=
 match xs,ts with
 | [x], [t]=>match opd env x with
  | .val (.one (.rs o v n i0))=>match mem o,look TB t with
   | .row T0 n' v' ys true,some ty=>match ty.elem with
    |some e=>match look TB e with
     |some te=>bif Nat.beq v v'&&(Nat.beq n n'&&(Nat.beq n te.size&&Nat.beq T0 e)) then .put .junk o (.row T0 n v (ys.take i0++List.replicate (ys.length - i0) (te.zero.map cD)) true) else .bad
     |none=> .bad
    |none=> .bad
   |_,_=> .bad
  |_=> .bad
 |_,_=> .bad
theorem ZbM (z:Array Value) (n k:Nat) (hk:k< n*z.size):(Builtin.zeroCells z n).toList[k]? =z.toList[k % z.size]? :=by
 have hz:0< z.size:=by
  rcases Nat.eq_zero_or_pos z.size with h|h
  ·rw [h] at hk;omega
  ·exact h
 have h5:k % z.size< z.size:=Nat.mod_lt _ hz
 rw [Array.getElem?_toList,Array.getElem?_toList]
 unfold Builtin.zeroCells
 rw [Array.getElem?_map,Array.getElem?_range,if_pos hk]
 simp only [Option.map_some]
 rw [Array.getElem?_eq_getElem h5,getElem!_pos z (k % z.size) h5]
theorem Zdo (z:Array Value) (n:Nat):(Builtin.zeroCells z n).size=n*z.size:=by simp [Builtin.zeroCells]
theorem ZeS {TB:List (Nat×Ty)} (hTB:TBok P TB) (st:St w0 I0 nt env mem bs a w) (hE:∀ t,env' t= .junk∨env' t=env t) (hM:∀ o,mem' o= .gone∨mem' o=mem o)
  (o:Oper) (xs:List Operand) (ts:List TypeId) (ho:o.op= .call { callee:= .builtin .clear,args:=⟨xs⟩,argTypes:=⟨ts⟩ }):SoundPlan P w0 I0 nt env mem a w o (planClear TB env' mem' ts xs):=by
 unfold planClear
 split
 ·rename_i x t
  split
  ·rename_i ob v n i0 hx
   split
   ·rename_i T0 n' v' ys ty hb hty
    obtain⟨ti,tu,tz,hi⟩:=Zh (hTB t ty (Zf hty))
    split
    ·rename_i e he
     split
     ·rename_i te hte
      obtain⟨ei,eu,ez,hei⟩:=Zh (hTB e te (Zf hte))
      obtain⟨h1,h2⟩:=Zb st hE x
      rw [hx] at h1 h2
      have hb':mem ob= .row T0 n' v' ys true:=by
       rcases hM ob with h|h
       ·rw [h] at hb;simp at hb
       ·rw [← h];exact hb
      cases hc:(Nat.beq v v'&&(Nat.beq n n'&&(Nat.beq n te.size&&Nat.beq T0 e))) with
      |false=>trivial
      |true=>
       simp only [Bool.and_eq_true] at hc
       obtain rfl:=Nat.eq_of_beq_eq_true hc.1
       obtain rfl:=Nat.eq_of_beq_eq_true hc.2.1
       have hn:=Nat.eq_of_beq_eq_true hc.2.2.1
       obtain rfl:=Nat.eq_of_beq_eq_true hc.2.2.2
       simp only [cond_true]
       obtain⟨b,m0,c0,ebs,him,ex⟩:=h1.2 _ _ _ hb'
       have hob:=st.obs ob
       rw [hb'] at hob
       obtain⟨zs,hown,hn0,hyl,hxl,hdd⟩:=hob
       rcases hown.2 with ⟨e1,e2⟩|⟨g,cap,cur,e1,e3,e4,e5,e6,e7,e8⟩
       ·rw [ebs] at e1;simp at e1
       ·rw [ebs] at e1
        simp only [Value.slice.injEq,Option.some.injEq,Addr.mk.injEq,and_true] at e1
        obtain⟨rfl,rfl,rfl⟩:=e1
        have hu:=hi.slice he
        have hezs:ez.cells.size=n:=by rw [hei.zs,← hei.size,hn]
        have hm:(ys.length - i0)*n+i0*n=ys.length*n:=by rw [← Nat.add_mul];congr 1;omega
        have hcap:ys.length*n≤c0*n:=Nat.mul_le_mul_right _ e5
        have hvl:(Builtin.zeroCells ez.cells (ys.length - i0)).toList.length=(ys.length - i0)*n:=by simp [Zdo,hezs]
        obtain⟨w',hrun,hrow',hbut⟩:=ZbE P (b:=b) (T:=T0) (off:=i0*n) (Builtin.zeroCells ez.cells (ys.length - i0)).toList 0 w cur.toList (Zc3 e4) (by rw [hvl];simp [e7];omega) (fun y hy=>by
         obtain⟨k,hk⟩:=List.getElem?_of_mem hy
         have hkl:k< (ys.length - i0)*ez.cells.size:=by have:=(List.getElem?_eq_some_iff.1 hk).1;rw [hvl] at this;rw [hezs];exact this
         rw [ZbM _ _ _ hkl] at hk
         exact hei.zf y (List.mem_of_getElem? hk))
        have hp0:ys.length - i0≠0:=by omega
        have hr:(Builtin.clear_ ⟨[t]⟩ o.type #[a.eval x]).run P w= .ok (.tuple #[]) w':=by
         obtain⟨q,hq⟩:∃ q,ys.length - i0=q+1:=⟨ys.length - i0 - 1,by omega⟩
         rw [ex,hq]
         rw [hq] at hrun
         simp [Builtin.clear_,run_underlying hu,hei.run_zero,hrun]
        refine Za (w':=w') (.tuple #[]) (Zq ho (by simp only [builtin,Sem.run_bind,List.map_toArray,List.map_cons,List.map_nil,hr,Result.andThen_ok,Sem.run_pure])) ⟨upd bs ob (bs ob),?_,trivial,fun q hq=>by simp [AV.hs] at hq⟩
        have hzl:(te.zero.map cD).length=n:=by rw [hei.zero];simp [hezs]
        rw [Nat.add_zero] at hrow'
        refine Zgz st hb' ebs e4 hrow' hbut (by rw [hvl];omega) (by simp;omega) ?_ ?_
        ·intro r hr
         rcases List.mem_append.1 hr with h|h
         ·exact hxl r (List.mem_of_mem_take h)
         ·rw [(List.mem_replicate.1 h).2];exact hzl
        ·intro us hul hud i j r d hi' hj
         rw [ZaG,hvl]
         by_cases hlt:i< i0
         ·rw [List.getElem?_append_left (by simp;omega),List.getElem?_take_of_lt hlt] at hi'
          have hjn:j< n:=by rw [← hxl r (List.mem_of_getElem? hi')];exact(List.getElem?_eq_some_iff.1 hj).1
          have h3:(i+1)*n≤i0*n:=Nat.mul_le_mul_right _ hlt
          rw [Nat.add_mul,Nat.one_mul] at h3
          rw [if_neg (by omega)]
          exact hud i j r d hi' hj
         ·have hil:i< ys.length:=by
           have:=(List.getElem?_eq_some_iff.1 hi').1
           simp at this;omega
          rw [List.getElem?_append_right (by simp;omega),List.getElem?_replicate] at hi'
          split at hi'
          ·obtain rfl:=(Option.some.inj hi').symm
           have hjn:j< n:=by rw [← hzl];exact(List.getElem?_eq_some_iff.1 hj).1
           have h3:(i+1)*n≤ys.length*n:=Nat.mul_le_mul_right _ hil
           rw [Nat.add_mul,Nat.one_mul] at h3
           have h4:i0*n≤i*n:=Nat.mul_le_mul_right _ (by omega)
           have h5:i*n - i0*n=(i - i0)*n:=(Nat.sub_mul _ _ _).symm
           rw [if_pos (by omega),show i*n+j - i0*n=(i - i0)*n+j by omega,ZbM _ _ _ (by rw [hezs];omega),hezs,Nat.mul_comm,Nat.mul_add_mod,Nat.mod_eq_of_lt hjn]
           rw [List.getElem?_map,hei.zero,List.getElem?_map] at hj
           cases hz:ez.cells.toList[j]? with
           |none=>rw [hz] at hj;simp at hj
           |some y=>
            rw [hz] at hj
            simp only [Option.map_some,cD,Option.some.injEq] at hj
            subst hj
            exact⟨y,rfl,Den.v y (hei.zf y (List.mem_of_getElem? hz))⟩
          ·simp at hi'
     ·trivial
    ·trivial
   ·trivial
  ·trivial
 ·trivial
def SpecS (P:Program) (G:World→Prop) (f:FuncId) (args:List AV) (T n:Nat) (xs:List (List D)) (r:AV) (ys:List (List D)):Prop:=
 Enters P f∧∀ (w:World) (I:Nat→Prop) (vs:List Value) (x:Value),(∀ w',Bel (Base.less w x).K w w'→G w')→(∀ b,I b→b< w.heap.size∧blk x≠some b)→
  ObOk (Base.less w x) w I noBs noMem x (.row T n 0 xs true)→Rel2 (fun y av=>DenAV w I (fun _=>x) (memT T n xs) y av) vs args→
  Calls P f vs.toArray w fun e w'=>∃ y,e= .returned y∧DenAV w' (fun b=>(I b∨(¬ (Base.less w x).K b∧b< w'.heap.size))∧blk x≠some b) noBs noMem y r∧
   ObOk (Base.less w x) w' (fun b=>(I b∨(¬ (Base.less w x).K b∧b< w'.heap.size))∧blk x≠some b) noBs noMem x (.row T n 0 ys true)∧Bel (Base.less w x).K w w'
noncomputable def planCallS (P:Program) (G:World→Prop) (env:Env) (mem:Mem) (dst:Option Nat) (f:Operand) (xs:List Operand):Plan:=
 match ownArg env mem xs with
 |none=>planCallF true P G env mem dst f xs
 |some p=>match mem p.1 with
  | .row T n v ys true=>match opd env f with
   | .val (.one (.d (.v (.func (.func g) first cap))))=>match first.toList,cap.toList with
    | [], []=>argTs env mem p.1 v xs (fun as=> .askS p.1 T n v (fun r zs=>r.hs= []∧SpecS P G g as T n ys r zs)) .bad
    |_,_=> .bad
   |_=> .bad
  |_=> .bad
theorem ZeW (hG:∀ w',Bel w0.K w w'→G w') (st:St w0 I0 nt env mem bs a w) (hE:∀ t,env' t= .junk∨env' t=env t) (hM:∀ o,mem' o= .gone∨mem' o=mem o)
  (o:Oper) (dst:Option Nat) (f:Operand) (xs:List Operand) (ts:Array TypeId) (ho:o.op= .call { callee:= .value f,args:=⟨xs⟩,argTypes:=ts }) (hD:∀ d,dst=some d→mem' d=mem d):SoundPlan P w0 I0 nt env mem a w o (planCallS P G env' mem' dst f xs):=by
 obtain⟨h1,_⟩:=Zb st hE f
 unfold planCallS
 split
 ·exact ZY true (hG w (Bel.refl _ _)) st hE hM o dst f xs ts ho hD
 ·rename_i p hp
  split
  ·rename_i T n v ys hm'
   have hm:mem p.1= .row T n v ys true:=by
    rcases hM p.1 with h|h
    ·rw [h] at hm';simp at hm'
    ·rw [← h];exact hm'
   split
   ·rename_i g first cap hf
    rw [hf] at h1
    have ef:=Zd h1
    split
    ·rename_i e1 e2
     have e1':first=#[]:=by cases first;simpa using e1
     have e2':cap=#[]:=by cases cap;simpa using e2
     subst e1' e2'
     rcases Zaf st hE hM hm xs (fun as=>Plan.askS p.1 T n v (fun r zs=>r.hs= []∧SpecS P G g as T n ys r zs)) Plan.bad with ⟨as,e,hl⟩|e
     ·rw [e]
      intro r zs _ ⟨hrh,hspec⟩
      have hob:=st.obs p.1
      rw [hm] at hob
      have hmut:(mem p.1).mut=true:=by rw [hm];rfl
      have hstay:∀ b,Stay w0 I0 mem bs w b→b< w.heap.size∧blk (bs p.1)≠some b:=by
       intro b hb
       rcases hb with ⟨g1,g2⟩|⟨g1,g2,g3⟩
       ·exact⟨st.ltK g2,fun hb=>(hob.block rfl b hb).1 g2⟩
       ·exact⟨g2,g3 p.1 hmut⟩
      have hKK:∀ b,w0.K b→(Base.less w (bs p.1)).K b:=fun b hb=>⟨st.ltK hb,fun h=>(hob.block rfl b h).1 hb⟩
      obtain⟨cs,hown,hn,hcl,hrow,hden⟩:=hob
      have hown2:ownsK (Base.less w (bs p.1)).K w T n (bs p.1) ys.length cs:=ZK hown.row fun k hk=>fun h=>h.2 (by
       rcases hown.2 with ⟨e3,_⟩|⟨g',cap',cur',e3,_⟩
       ·rw [e3] at hk;simp [Value.ownBlock] at hk
       ·rw [e3] at hk ⊢;simpa [blk,Value.ownBlock] using hk)
      have hc:=hspec.2 w (Stay w0 I0 mem bs w) (xs.map a.eval) (bs p.1) (fun w' hb=>hG w' ⟨hb.os,hb.tape,hb.output,hb.size,fun k hk=>hb.block k (hKK k hk)⟩) hstay
       ⟨cs,hown2,hn,hcl,hrow,hden⟩ hl
      refine ZD (f:=g) (args:=(xs.map a.eval).toArray) (w':=w) ?_ ?_
      ·have hrun:=hspec.1 (xs.map a.eval).toArray w
       simp only [execOp,ho,resolve,ef,Deferred.ofValue,Sem.run_bind,Sem.run_pure,Result.andThen_ok,invoke]
       simpa using hrun
      ·refine Calls.mono hc fun e w' ⟨y,he,hy,⟨ds,hown',hn',hdl,hrow',hden'⟩,hb⟩=>⟨y,he,?_⟩
       have hb0:Bel w0.K w w':=⟨hb.os,hb.tape,hb.output,hb.size,fun k hk=>hb.block k (hKK k hk)⟩
       have hk:∀ k,k< w.heap.size→((mem p.1).mut=true→blk (bs p.1)≠some k)→w'.heap[k]? =w.heap[k]? :=fun k hk hne=>hb.block k ⟨hk,hne hmut⟩
       have hx:∀ b,(Ob.row T n v zs true).mut=true→blk (bs p.1)=some b→((mem p.1).mut=true∧blk (bs p.1)=some b)∨(w.heap.size≤b∧b< w'.heap.size):=fun b _ hby=> .inl ⟨hmut,hby⟩
       have hv:Turns mem bs p.1 (.row T n v zs true) (bs p.1):= .inr (.inr (.inl ⟨T,n,v,ys,true,T,n,v,zs,true,hm,rfl,Nat.le_refl _,fun _=>⟨rfl,rfl⟩⟩))
       have eb:upd bs p.1 (bs p.1)=bs:=Zaw _ _
       have K:=st.keeps p.1 (.row T n v zs true) (bs p.1) hb0 hk hx hv
       rw [eb] at K
       have hst:∀ b,(Stay w0 I0 mem bs w b∨(¬ (Base.less w (bs p.1)).K b∧b< w'.heap.size))∧blk (bs p.1)≠some b→Stay w0 I0 (upd mem p.1 (.row T n v zs true)) bs w' b:=by
        rintro b ⟨h|⟨h1,h2⟩,hne⟩
        ·exact(K.stay b h).1
        ·refine .inr ⟨fun hk0=>h1 (hKK b hk0),h2,fun o' hm' hbo=> ?_⟩
         by_cases e5:o'=p.1
         ·subst e5;exact hne hbo
         ·rw [Zw _ _ e5] at hm'
          have hlt:=((st.obs o').block hm' b hbo).2
          exact h1 ⟨hlt,hne⟩
       have st':=st.update p.1 (.row T n v zs true) (bs p.1) hb0 hk hx hv rfl (fun q hq=>by simp [Ob.hs] at hq) (by
        refine⟨ds,ZK hown'.row fun k hk0=>fun hk1=>hown'.not hk0 (hKK k hk1),hn',hdl,hrow',fun i j r d hi hj=> ?_⟩
        obtain⟨z,hz,hd⟩:=hden' i j r d hi hj
        exact⟨z,hz,Den.mono (fun b hb'=>⟨by rw [eb];exact hst b hb',rfl⟩) hd⟩)
       rw [eb] at st'
       have K2:Keeps w' (fun b=>(Stay w0 I0 mem bs w b∨(¬ (Base.less w (bs p.1)).K b∧b< w'.heap.size))∧blk (bs p.1)≠some b) noBs noMem w' (Stay w0 I0 (upd mem p.1 (.row T n v zs true)) bs w') bs (upd mem p.1 (.row T n v zs true)) (fun _=>False):=⟨fun b hb=>⟨hst b hb,rfl⟩,fun _ _ h=>h.elim,fun _ _ _ _ _ _ h=>h.elim⟩
       exact⟨bs,st',K2.av (fun o ho=>by rw [hrh] at ho;simp at ho) hy,fun q hq=>by rw [hrh] at hq;simp at hq⟩
     ·rw [e];trivial
    ·trivial
   ·trivial
  ·trivial
def memV (T:Nat) (cs:List D):Mem:=fun o=>bif Nat.beq o 1000 then .var T (cs.map C.d) else .gone
def SpecV (P:Program) (G:World→Prop) (f:FuncId) (args:List AV) (T:Nat) (cs:List D) (r:AV) (ds:List D):Prop:=
 Enters P f∧∀ (w:World) (I:Nat→Prop) (vs:List Value) (x:Value),(∀ w',Bel (Base.less w x).K w w'→G w')→(∀ b,I b→b< w.heap.size∧blk x≠some b)→
  ObOk (Base.less w x) w I noBs noMem x (.var T (cs.map C.d))→Rel2 (fun y av=>DenAV w I (fun _=>x) (memV T cs) y av) vs args→
  Calls P f vs.toArray w fun e w'=>∃ y,e= .returned y∧DenAV w' (fun b=>(I b∨(¬ (Base.less w x).K b∧b< w'.heap.size))∧blk x≠some b) noBs noMem y r∧
   ObOk (Base.less w x) w' (fun b=>(I b∨(¬ (Base.less w x).K b∧b< w'.heap.size))∧blk x≠some b) noBs noMem x (.var T (ds.map C.d))∧Bel (Base.less w x).K w w'
def dCs:List C→Option (List D)
 | []=>some []
 | .d x :: r=>match dCs r with
  |some l=>some (x :: l)
  |none=>none
 |_ :: _=>none
theorem ZjS:∀ {cs:List C} {ds:List D},dCs cs=some ds→cs=ds.map C.d
 | [],ds,h=>by simp [dCs] at h;subst h;rfl
 | .d x :: r,ds,h=>by
  unfold dCs at h
  split at h
  ·rename_i l hl
   obtain rfl:=Option.some.inj h
   rw [ZjS hl];rfl
  ·simp at h
 | .row _ _ :: _,_,h=>by simp [dCs] at h
 | .ptr _ _ :: _,_,h=>by simp [dCs] at h
 | .ref _ :: _,_,h=>by simp [dCs] at h
 | .full _ :: _,_,h=>by simp [dCs] at h
 | .rp _ _ _ _ _ :: _,_,h=>by simp [dCs] at h
 | .rs _ _ _ _ :: _,_,h=>by simp [dCs] at h
 | .mp _ :: _,_,h=>by simp [dCs] at h
def ptrArg (env:Env):List Operand→Option Nat
 | []=>none
 |x :: r=>match opd env x with
  | .val (.one (.ptr o 0))=>some o
  |_=>ptrArg env r
def argPs {β:Type} (env:Env) (mem:Mem) (d:Nat):List Operand→(List AV→β)→β→β
 | [],k,_=>k []
 |x :: r,k,bad=>match opd env x with
  | .val (.one (.ptr o 0))=>bif Nat.beq o d then argPs env mem d r (fun l=>k (.val (.one (.ptr 1000 0)) :: l)) bad else bad
  |y=>argAVa true mem y (fun z=>argPs env mem d r (fun l=>k (z :: l)) bad) bad
theorem Zbf {β:Type} (st:St w0 I0 nt env mem bs a w) (hE:∀ t,env' t= .junk∨env' t=env t) (hM:∀ o,mem' o= .gone∨mem' o=mem o) {d T:Nat} {cs:List D}:∀ (l:List Operand) (k:List AV→β) (bad:β),
  (∃ as,argPs env' mem' d l k bad=k as∧Rel2 (fun y av=>DenAV w (Stay w0 I0 mem bs w) (fun _=>bs d) (memV T cs) y av) (l.map a.eval) as)∨argPs env' mem' d l k bad=bad
 | [],k,bad=> .inl ⟨[],rfl,Rel2.nil⟩
 |x :: r,k,bad=>by
  obtain⟨h1,_⟩:=Zb st hE x
  unfold argPs
  split
  ·rename_i o hx
   rw [hx] at h1
   cases hc:Nat.beq o d with
   |false=>exact .inr rfl
   |true=>
    obtain rfl:=Nat.eq_of_beq_eq_true hc
    simp only [cond_true]
    rcases Zbf st hE hM r (fun l=>k (.val (.one (.ptr 1000 0)) :: l)) bad with ⟨as,e,f2⟩|e
    ·exact .inl ⟨_,e,f2.cons h1⟩
    ·exact .inr e
  ·rcases Zal true st hM (opd env' x) (fun z=>argPs env' mem' d r (fun l=>k (z :: l)) bad) bad with ⟨z,e,g1,g2⟩|e
   ·rcases Zbf st hE hM r (fun l=>k (z :: l)) bad with ⟨as,e',f2⟩|e'
    ·exact .inl ⟨z :: as,by rw [e,e'],f2.cons (g2 _ _ _ h1)⟩
    ·exact .inr (by rw [e,e'])
   ·exact .inr e
noncomputable def planCallV (P:Program) (G:World→Prop) (env:Env) (mem:Mem) (_dst:Option Nat) (f:Operand) (xs:List Operand):Plan:=
 match ptrArg env xs with
 |none=> .bad
 |some o=>match mem o with
  | .var T cs=>match dCs cs with
   |some ds=>match opd env f with
    | .val (.one (.d (.v (.func (.func g) first cap))))=>match first.toList,cap.toList with
     | [], []=>argPs env mem o xs (fun as=> .askV o T (fun r zs=>(r.hs= []∧ds.length=zs.length)∧SpecV P G g as T ds r zs)) .bad
     |_,_=> .bad
    |_=> .bad
   |none=> .bad
  |_=> .bad
theorem ZeU (hG:∀ w',Bel w0.K w w'→G w') (st:St w0 I0 nt env mem bs a w) (hE:∀ t,env' t= .junk∨env' t=env t) (hM:∀ o,mem' o= .gone∨mem' o=mem o)
  (o:Oper) (dst:Option Nat) (f:Operand) (xs:List Operand) (ts:Array TypeId) (ho:o.op= .call { callee:= .value f,args:=⟨xs⟩,argTypes:=ts }):SoundPlan P w0 I0 nt env mem a w o (planCallV P G env' mem' dst f xs):=by
 obtain⟨h1,_⟩:=Zb st hE f
 unfold planCallV
 split
 ·trivial
 ·rename_i q hp
  split
  ·rename_i T cs0 hm'
   split
   ·rename_i cs hcs
    obtain rfl:=ZjS hcs
    have hm:mem q= .var T (cs.map C.d):=by
     rcases hM q with h|h
     ·rw [h] at hm';simp at hm'
     ·rw [← h];exact hm'
    split
    ·rename_i g first cap hf
     rw [hf] at h1
     have ef:=Zd h1
     split
     ·rename_i e1 e2
      have e1':first=#[]:=by cases first;simpa using e1
      have e2':cap=#[]:=by cases cap;simpa using e2
      subst e1' e2'
      rcases Zbf (T:=T) (cs:=cs) st hE hM xs (fun as=>Plan.askV q T (fun r zs=>(r.hs= []∧cs.length=zs.length)∧SpecV P G g as T cs r zs)) Plan.bad with ⟨as,e,hl⟩|e
      ·rw [e]
       intro r zs _ ⟨⟨hrh,hlen⟩,hspec⟩
       have hob:=st.obs q
       rw [hm] at hob
       have hmut:(mem q).mut=true:=by rw [hm];rfl
       have hstay:∀ b,Stay w0 I0 mem bs w b→b< w.heap.size∧blk (bs q)≠some b:=by
        intro b hb
        rcases hb with ⟨g1,g2⟩|⟨g1,g2,g3⟩
        ·exact⟨st.ltK g2,fun hb=>(hob.block rfl b hb).1 g2⟩
        ·exact⟨g2,g3 q hmut⟩
       have hKK:∀ b,w0.K b→(Base.less w (bs q)).K b:=fun b hb=>⟨st.ltK hb,fun h=>(hob.block rfl b h).1 hb⟩
       obtain⟨b0,l,hbq,hnk,hrow,hll,hden⟩:=hob
       have hnk2:¬ (Base.less w (bs q)).K b0:=fun h=>h.2 (by rw [hbq];rfl)
       have hc:=hspec.2 w (Stay w0 I0 mem bs w) (xs.map a.eval) (bs q) (fun w' hb=>hG w' ⟨hb.os,hb.tape,hb.output,hb.size,fun k hk=>hb.block k (hKK k hk)⟩) hstay
        ⟨b0,l,hbq,hnk2,hrow,hll,fun j c y hj hy=>by
         have:=hden j c y hj hy
         rw [List.getElem?_map] at hj
         cases hd:cs[j]? with
         |none=>rw [hd] at hj;simp at hj
         |some d=>rw [hd] at hj;obtain rfl:=Option.some.inj hj;exact this⟩ hl
       refine ZD (f:=g) (args:=(xs.map a.eval).toArray) (w':=w) ?_ ?_
       ·have hrun:=hspec.1 (xs.map a.eval).toArray w
        simp only [execOp,ho,resolve,ef,Deferred.ofValue,Sem.run_bind,Sem.run_pure,Result.andThen_ok,invoke]
        simpa using hrun
       ·refine Calls.mono hc fun e w' ⟨y,he,hy,⟨b1,l1,hb1,hnk1,hrow1,hll1,hden1⟩,hb⟩=>⟨y,he,?_⟩
        have hb0:Bel w0.K w w':=⟨hb.os,hb.tape,hb.output,hb.size,fun k hk=>hb.block k (hKK k hk)⟩
        have hk:∀ k,k< w.heap.size→((mem q).mut=true→blk (bs q)≠some k)→w'.heap[k]? =w.heap[k]? :=fun k hk hne=>hb.block k ⟨hk,hne hmut⟩
        have hx:∀ b,(Ob.var T (zs.map C.d)).mut=true→blk (bs q)=some b→((mem q).mut=true∧blk (bs q)=some b)∨(w.heap.size≤b∧b< w'.heap.size):=fun b _ hby=> .inl ⟨hmut,hby⟩
        have hv:Turns mem bs q (.var T (zs.map C.d)) (bs q):= .inr (.inl ⟨rfl,T,T,cs.map C.d,zs.map C.d,hm,rfl⟩)
        have eb:upd bs q (bs q)=bs:=Zaw _ _
        have K:=st.keeps q (.var T (zs.map C.d)) (bs q) hb0 hk hx hv
        rw [eb] at K
        have hst:∀ b,(Stay w0 I0 mem bs w b∨(¬ (Base.less w (bs q)).K b∧b< w'.heap.size))∧blk (bs q)≠some b→Stay w0 I0 (upd mem q (.var T (zs.map C.d))) bs w' b:=by
         rintro b ⟨h|⟨h1,h2⟩,hne⟩
         ·exact(K.stay b h).1
         ·refine .inr ⟨fun hk0=>h1 (hKK b hk0),h2,fun o' hm' hbo=> ?_⟩
          by_cases e5:o'=q
          ·subst e5;exact hne hbo
          ·rw [Zw _ _ e5] at hm'
           have hlt:=((st.obs o').block hm' b hbo).2
           exact h1 ⟨hlt,hne⟩
        have hzh:∀ p,p∈(Ob.var T (zs.map C.d)).hs→False:=fun p hp=>by
         simp only [Ob.hs,List.mem_flatMap,List.mem_map] at hp
         obtain⟨c,⟨d,_,rfl⟩,hp⟩:=hp
         simp [C.hs] at hp
        have st':=st.update q (.var T (zs.map C.d)) (bs q) hb0 hk hx hv rfl (fun p hp=>(hzh p hp).elim) (by
         refine⟨b1,l1,hb1,fun h=> ?_,hrow1,hll1,fun j c y hj hy=> ?_⟩
         ·rw [hb1] at hbq
          have:b1=b0:=by
           have:=Value.pointer.inj hbq
           have:=Option.some.inj this
           exact congrArg Addr.block this
          subst this
          exact hnk h
         ·have hd:=hden1 j c y hj hy
          rw [List.getElem?_map] at hj
          cases hz:zs[j]? with
          |none=>rw [hz] at hj;simp at hj
          |some d=>
           rw [hz] at hj
           obtain rfl:=Option.some.inj hj
           exact Den.mono (fun b hb'=>⟨by rw [eb];exact hst b hb',rfl⟩) hd)
        rw [eb] at st'
        have K2:Keeps w' (fun b=>(Stay w0 I0 mem bs w b∨(¬ (Base.less w (bs q)).K b∧b< w'.heap.size))∧blk (bs q)≠some b) noBs noMem w' (Stay w0 I0 (upd mem q (.var T (zs.map C.d))) bs w') bs (upd mem q (.var T (zs.map C.d))) (fun _=>False):=⟨fun b hb=>⟨hst b hb,rfl⟩,fun _ _ h=>h.elim,fun _ _ _ _ _ _ h=>h.elim⟩
        exact⟨bs,st',K2.av (fun o ho=>by rw [hrh] at ho;simp at ho) hy,fun q hq=>by rw [hrh] at hq;simp at hq⟩
      ·rw [e];trivial
     ·trivial
    ·trivial
   ·trivial
  ·trivial
def frzL (d:Nat) (env:Env):List Operand→Mem→Mem
 | [],mem=>mem
 |x :: r,mem=>match opd env x with
  | .val (.one (.row o _))=>bif Nat.beq o d then frzL d env r mem else frzL d env r (frzO o mem)
  |_=>frzL d env r mem
theorem Zg0 (o:Nat) (mem:Mem):frzO o mem=mem∨∃ ob,frzO o mem=upd mem o ob:=by
 unfold frzO
 split
 ·exact .inr ⟨_,rfl⟩
 ·exact .inl rfl
theorem Zfn {o d:Nat} (h:o≠d) (mem:Mem):frzO o mem d=mem d:=by
 rcases Zg0 o mem with e|⟨ob,e⟩
 ·rw [e]
 ·rw [e,Zw _ _ (fun e=>h e.symm)]
theorem Zia {o:Nat} {mem mem':Mem} (h:mem' o=mem o):frzO o mem' o=frzO o mem o:=by
 have key:∀ m:Mem,frzO o m o=match m o with
   | .row T n k xs true=> .row T n k xs false
   |ob=>ob:=fun m=>by
  cases hm:m o with
  |gone=>simp only [frzO,hm]
  |var T cs=>simp only [frzO,hm]
  |ext _ _=>simp only [frzO,hm]
  |row T n k xs own=>cases own<;>simp only [frzO,hm,Ze]
 rw [key,key,h]
theorem Zcu (d:Nat) (env:Env) (x:Operand) (r:List Operand):(∀ mem,frzL d env (x :: r) mem=frzL d env r mem)∨∃ o,o≠d∧∀ mem,frzL d env (x :: r) mem=frzL d env r (frzO o mem):=by
 by_cases h:∃ o v,opd env x= .val (.one (.row o v))
 ·obtain⟨o,v,h⟩:=h
  cases e:Nat.beq o d with
  |true=>exact .inl fun mem=>by rw [frzL,h];simp only [e,cond_true]
  |false=>exact .inr ⟨o,fun h=>by subst h;simp at e,fun mem=>by rw [frzL,h];simp only [e,cond_false]⟩
 ·refine .inl fun mem=> ?_
  rw [frzL]
  split
  ·rename_i o v hx;exact absurd ⟨o,v,hx⟩ h
  ·rfl
theorem Zib (d:Nat) (env:Env):∀ (l:List Operand) (mem:Mem),frzL d env l mem d=mem d
 | [],_=>rfl
 |x :: r,mem=>by
  rcases Zcu d env x r with e|⟨o,ho,e⟩
  ·rw [e,Zib d env r]
  ·rw [e,Zib d env r,Zfn ho]
theorem St.frzL (d:Nat) (env1:Env):∀ (l:List Operand) {mem:Mem},St w0 I0 nt env mem bs a w→St w0 I0 nt env (frzL d env1 l mem) bs a w
 | [],_,st=>st
 |x :: r,mem,st=>by
  rcases Zcu d env1 x r with e|⟨o,ho,e⟩
  ·rw [e];exact St.frzL d env1 r st
  ·rw [e];exact St.frzL d env1 r (st.frzO o)
theorem Zbu (d:Nat) (env1:Env):∀ (l:List Operand) {mem mem':Mem},(∀ o,mem' o= .gone∨mem' o=mem o)→∀ o,frzL d env1 l mem' o= .gone∨frzL d env1 l mem' o=frzL d env1 l mem o
 | [],_,_,h=>h
 |x :: r,mem,mem',h=>by
  rcases Zcu d env1 x r with e|⟨q,hq0,e⟩
  ·rw [e,e];exact Zbu d env1 r h
  ·rw [e,e]
   refine Zbu d env1 r fun o=> ?_
   by_cases eo:o=q
   ·subst eo
    rcases h o with hq|hq
    ·have e1:frzO o mem'=mem':=by unfold frzO;rw [hq]
     rw [e1];exact .inl hq
    ·exact .inr (Zia hq)
   ·rw [Zfn (fun h=>eo h.symm),Zfn (fun h=>eo h.symm)];exact h o
def argTz {β:Type} (env:Env) (mem:Mem) (d v:Nat):List Operand→(List AV→β)→β→β
 | [],k,_=>k []
 |x :: r,k,bad=>match opd env x with
  | .val (.one (.row o v'))=>bif Nat.beq o d&&Nat.beq v' v then argTz env mem d v r (fun l=>k (.val (.one (.row 1000 0)) :: l)) bad else argAVa true mem (.val (.one (.row o v'))) (fun z=>argTz env mem d v r (fun l=>k (z :: l)) bad) bad
  |y=>argAVa true mem y (fun z=>argTz env mem d v r (fun l=>k (z :: l)) bad) bad
theorem Zbe {β:Type} (st:St w0 I0 nt env mem bs a w) (hE:∀ t,env' t= .junk∨env' t=env t) (hM:∀ o,mem' o= .gone∨mem' o=mem o) {d v T n:Nat} {xs:List (List D)} (hd:mem d= .row T n v xs true):∀ (l:List Operand) (k:List AV→β) (bad:β),
  (∃ as,argTz env' mem' d v l k bad=k as∧Rel2 (fun y av=>DenAV w (Stay w0 I0 mem bs w) (fun _=>bs d) (memT T n xs) y av) (l.map a.eval) as)∨argTz env' mem' d v l k bad=bad
 | [],k,bad=> .inl ⟨[],rfl,Rel2.nil⟩
 |x :: r,k,bad=>by
  obtain⟨h1,_⟩:=Zb st hE x
  have other:(∃ as,argAVa true mem' (opd env' x) (fun z=>argTz env' mem' d v r (fun l=>k (z :: l)) bad) bad=k as∧Rel2 (fun y av=>DenAV w (Stay w0 I0 mem bs w) (fun _=>bs d) (memT T n xs) y av) ((x :: r).map a.eval) as)∨argAVa true mem' (opd env' x) (fun z=>argTz env' mem' d v r (fun l=>k (z :: l)) bad) bad=bad:=by
   rcases Zal true st hM (opd env' x) (fun z=>argTz env' mem' d v r (fun l=>k (z :: l)) bad) bad with ⟨z,e,g1,g2⟩|e
   ·rcases Zbe st hE hM hd r (fun l=>k (z :: l)) bad with ⟨as,e',f2⟩|e'
    ·exact .inl ⟨z :: as,by rw [e,e'],f2.cons (g2 _ _ _ h1)⟩
    ·exact .inr (by rw [e,e'])
   ·exact .inr e
  unfold argTz
  split
  ·rename_i o v' hx
   cases hc:(Nat.beq o d&&Nat.beq v' v) with
   |false=>
    simp only [cond_false]
    rw [hx] at other
    exact other
   |true=>
    rw [hx] at h1
    simp only [Bool.and_eq_true] at hc
    obtain rfl:=Nat.eq_of_beq_eq_true hc.1
    obtain rfl:=Nat.eq_of_beq_eq_true hc.2
    simp only [cond_true]
    rcases Zbe st hE hM hd r (fun l=>k (.val (.one (.row 1000 0)) :: l)) bad with ⟨as,e,f2⟩|e
    ·refine .inl ⟨_,e,f2.cons ?_⟩
     have hv:a.eval x=bs o:=h1.2 _ _ _ _ hd
     exact⟨h1.1,fun T' n' xs' own' hm=>hv⟩
    ·exact .inr e
  ·exact other
noncomputable def planCallTB (P:Program) (G:World→Prop) (env:Env) (mem:Mem) (dst:Option Nat) (f:Operand) (xs:List Operand):Plan:=
 match ownArg env mem xs with
 |none=>planCallF true P G env mem dst f xs
 |some p=>match mem p.1 with
  | .row T n v ys true=>match opd env f with
   | .val (.one (.d (.v (.func (.func g) first cap))))=>match first.toList,cap.toList with
    | [], []=>argTz env (frzL p.1 env xs mem) p.1 v xs (fun as=> .askT p.1 (v+1) (fun T' n' zs=>SpecT P G g as T n ys T' n' zs∧∀ r,r∈zs→∀ d,d∈r→∃ v,d= .v v)) .bad
    |_,_=> .bad
   |_=> .bad
  |_=> .bad
theorem Zd6 (hG:∀ w',Bel w0.K w w'→G w') (st:St w0 I0 nt env mem bs a w) (hE:∀ t,env' t= .junk∨env' t=env t) (hM:∀ o,mem' o= .gone∨mem' o=mem o)
  (o:Oper) (dst:Option Nat) (f:Operand) (xs:List Operand) (ts:Array TypeId) (ho:o.op= .call { callee:= .value f,args:=⟨xs⟩,argTypes:=ts }) (hD:∀ d,dst=some d→mem' d=mem d):SoundPlan P w0 I0 nt env mem a w o (planCallTB P G env' mem' dst f xs):=by
 obtain⟨h1,_⟩:=Zb st hE f
 unfold planCallTB
 split
 ·exact ZY true (hG w (Bel.refl _ _)) st hE hM o dst f xs ts ho hD
 ·rename_i p hp
  split
  ·rename_i T n v ys hm'
   have hm:mem p.1= .row T n v ys true:=by
    rcases hM p.1 with h|h
    ·rw [h] at hm';simp at hm'
    ·rw [← h];exact hm'
   split
   ·rename_i g first cap hf
    rw [hf] at h1
    have ef:=Zd h1
    split
    ·rename_i e1 e2
     have e1':first=#[]:=by cases first;simpa using e1
     have e2':cap=#[]:=by cases cap;simpa using e2
     subst e1' e2'
     have stf:=St.frzL (w0:=w0) p.1 env' xs st
     have hmf:frzL p.1 env' xs mem p.1= .row T n v ys true:=by rw [Zib];exact hm
     rcases Zbe stf hE (Zbu p.1 env' xs hM) hmf xs (fun as=>Plan.askT p.1 (v+1) (fun T' n' zs=>SpecT P G g as T n ys T' n' zs∧∀ r,r∈zs→∀ d,d∈r→∃ v,d= .v v)) Plan.bad with ⟨as,e,hl⟩|e
     ·rw [e]
      intro T' n' zs ⟨hspec,hflat⟩
      have hmut:(mem p.1).mut=true:=by rw [hm];rfl
      have hobf:=stf.obs p.1
      rw [hmf] at hobf
      have hstay:∀ b,Stay w0 I0 (frzL p.1 env' xs mem) bs w b→b< w.heap.size∧blk (bs p.1)≠some b:=by
       intro b hb
       rcases hb with ⟨g1,g2⟩|⟨g1,g2,g3⟩
       ·exact⟨st.ltK g2,fun hb=>(hobf.block rfl b hb).1 g2⟩
       ·exact⟨g2,g3 p.1 (by rw [hmf];rfl)⟩
      have hob:=st.obs p.1
      rw [hm] at hob
      have hKK:∀ b,w0.K b→(Base.less w (bs p.1)).K b:=fun b hb=>⟨st.ltK hb,fun h=>(hob.block rfl b h).1 hb⟩
      obtain⟨cs,hown,hn,hcl,hrow,hden⟩:=hobf
      have hown2:ownsK (Base.less w (bs p.1)).K w T n (bs p.1) ys.length cs:=ZK hown.row fun k hk=>fun h=>h.2 (by
       rcases hown.2 with ⟨e3,_⟩|⟨g',cap',cur',e3,_⟩
       ·rw [e3] at hk;simp [Value.ownBlock] at hk
       ·rw [e3] at hk ⊢;simpa [blk,Value.ownBlock] using hk)
      have hc:=hspec.2 w (Stay w0 I0 (frzL p.1 env' xs mem) bs w) (xs.map a.eval) (bs p.1) (fun w' hb=>hG w' ⟨hb.os,hb.tape,hb.output,hb.size,fun k hk=>hb.block k (hKK k hk)⟩) hstay
       ⟨cs,hown2,hn,hcl,hrow,hden⟩ hl
      refine ZD (f:=g) (args:=(xs.map a.eval).toArray) (w':=w) ?_ ?_
      ·have hrun:=hspec.1 (xs.map a.eval).toArray w
       simp only [execOp,ho,resolve,ef,Deferred.ofValue,Sem.run_bind,Sem.run_pure,Result.andThen_ok,invoke]
       simpa using hrun
      ·refine Calls.mono hc fun e w' ⟨y,he,⟨ds,hown',hn',hdl,hrow',hden'⟩,hb⟩=>⟨y,he,?_⟩
       have hb0:Bel w0.K w w':=⟨hb.os,hb.tape,hb.output,hb.size,fun k hk=>hb.block k (hKK k hk)⟩
       have hblky:∀ b,blk y=some b→y.ownBlock=some b:=by
        intro b hby
        rcases hown'.2 with ⟨rfl,_⟩|⟨g',cap',cur',rfl,_⟩
        ·simp [blk] at hby
        ·simpa [blk,Value.ownBlock] using hby
       have hk:∀ k,k< w.heap.size→((mem p.1).mut=true→blk (bs p.1)≠some k)→w'.heap[k]? =w.heap[k]? :=fun k hk hne=>hb.block k ⟨hk,hne hmut⟩
       have hx:∀ b,(Ob.row T' n' (v+1) zs true).mut=true→blk y=some b→((mem p.1).mut=true∧blk (bs p.1)=some b)∨(w.heap.size≤b∧b< w'.heap.size):=by
        intro b _ hby
        have hnk:=hown'.not (hblky b hby)
        have hlt:=hown'.lt (hblky b hby)
        by_cases hlt2:b< w.heap.size
        ·by_cases hbb:blk (bs p.1)=some b
         ·exact .inl ⟨hmut,hbb⟩
         ·exact absurd ⟨hlt2,hbb⟩ hnk
        ·exact .inr ⟨Nat.le_of_not_lt hlt2,hlt⟩
       have hv:Turns mem bs p.1 (.row T' n' (v+1) zs true) y:= .inr (.inr (.inl ⟨T,n,v,ys,true,T',n',v+1,zs,true,hm,rfl,Nat.le_succ _,fun e=>by omega⟩))
       refine⟨upd bs p.1 y,st.update p.1 _ y hb0 hk hx hv rfl (fun q hq=>by simp [Ob.hs] at hq) ?_,⟨?_,fun T2 n2 xs2 own2 hm2=> ?_⟩,fun q hq=> ?_⟩
       ·refine⟨ds,ZK hown'.row fun k hk0=>fun hk1=>hown'.not hk0 (hKK k hk1),hn',hdl,hrow',fun i j r d hi hj=> ?_⟩
        obtain⟨z,hz,hd⟩:=hden' i j r d hi hj
        obtain⟨u,rfl⟩:=hflat r (List.mem_of_getElem? hi) d (List.mem_of_getElem? hj)
        refine⟨z,hz,?_⟩
        cases hd with
        |v _ hu=>exact .v _ hu
       ·rcases hown'.2 with ⟨rfl,_⟩|⟨g',cap',cur',rfl,_⟩<;>rfl
       ·rw [Ze]
       ·have:q=(p.1,v+1):=by simpa [AV.hs,S.hs,C.hs] using hq
        subst this
        exact⟨by simp only [Ze];rfl,by simp only [Ze];exact Nat.le_refl _⟩
     ·rw [e];trivial
    ·trivial
   ·trivial
  ·trivial
def planCallN (P:Program) (G:World→Prop) (env:Env) (mem:Mem) (dst:Option Nat) (f:Operand) (xs:List Operand):Plan:=
 match opd env f with
 | .val (.one (.d (.v (.func (.func g) first cap))))=>match first.toList,cap.toList with
  | [], []=>argAVs true (frzL 4294967295 env xs mem) env xs (fun as=> .askN (roomOf mem dst) (fun r=>∃ T n zs,r= .new T n zs∧SpecR P G g as T n zs∧∀ r,r∈zs→∀ d,d∈r→∃ v,d= .v v)) .bad
  |_,_=> .bad
 |_=> .bad
theorem ZeX (hG:G w) (st:St w0 I0 nt env mem bs a w) (hE:∀ t,env' t= .junk∨env' t=env t) (hM:∀ o,mem' o= .gone∨mem' o=mem o)
  (o:Oper) (dst:Option Nat) (f:Operand) (xs:List Operand) (ts:Array TypeId) (ho:o.op= .call { callee:= .value f,args:=⟨xs⟩,argTypes:=ts }) (hD:∀ d,dst=some d→mem' d=mem d):SoundPlan P w0 I0 nt env mem a w o (planCallN P G env' mem' dst f xs):=by
 obtain⟨h1,_⟩:=Zb st hE f
 unfold planCallN
 split
 ·rename_i g first cap hf
  rw [hf] at h1
  have ef:=Zd h1
  split
  ·rename_i e1 e2
   have e1':first=#[]:=by cases first;simpa using e1
   have e2':cap=#[]:=by cases cap;simpa using e2
   subst e1' e2'
   have stf:=St.frzL (w0:=w0) 4294967295 env' xs st
   rcases Z4 true stf hE (Zbu 4294967295 env' xs hM) xs (fun as=>Plan.askN (roomOf mem' dst) (fun r=>∃ T n zs,r= .new T n zs∧SpecR P G g as T n zs∧∀ r,r∈zs→∀ d,d∈r→∃ v,d= .v v)) Plan.bad with ⟨as,e,hl⟩|e
   ·rw [e]
    refine⟨fun r hn h=>by obtain⟨T,n,zs,rfl,_⟩:=h;simp [AV.isNew] at hn,fun d hd T n zs h=> ?_⟩
    obtain⟨T2,n2,zs2,heq,hspec,hflat⟩:=h
    obtain⟨rfl,rfl,rfl⟩:T=T2∧n=n2∧zs=zs2:=by simpa using heq
    have hgone:mem d= .gone:=by
     unfold roomOf at hd
     split at hd
     ·rename_i d'
      split at hd
      ·rename_i hg
       obtain rfl:=Option.some.inj hd
       rw [← hD d' rfl];exact hg
      ·simp at hd
     ·simp at hd
    have hc:=hspec.2 w (Stay w0 I0 (frzL 4294967295 env' xs mem) bs w) (xs.map a.eval) hG (fun b hb=>by
     rcases hb with ⟨_,h⟩|⟨_,h,_⟩
     ·exact st.ltK h
     ·exact h) (hl _ _)
    refine ZD (f:=g) (args:=(xs.map a.eval).toArray) (w':=w) ?_ ?_
    ·have hrun:=hspec.1 (xs.map a.eval).toArray w
     simp only [execOp,ho,resolve,ef,Deferred.ofValue,Sem.run_bind,Sem.run_pure,Result.andThen_ok,invoke]
     simpa using hrun
    ·refine Calls.mono hc fun e w' ⟨x,he,hf,hb⟩=>⟨x,he,?_⟩
     exact Zba st hgone (Zda hf hflat) hb
   ·rw [e];trivial
  ·trivial
 ·trivial
end
theorem St.drew {w0:Base} {I0:Nat→Prop} {nt:Shape} {env:Env} {mem:Mem} {bs:Bs} {a:Act} {w:World} (st:St w0 I0 nt env mem bs a w):St w0 I0 nt env mem bs a { w with drawn:=w.drawn+1 }:=
 (st.grow (w':={ w with drawn:=w.drawn+1 }) ((Below.refl _ w).drew)).2
section
variable {P : Program} {w0 : Base} {I0 : Nat → Prop} {nt : Shape} {env env' : Env} {mem mem' : Mem} {bs : Bs} {a : Act} {w : World}
def fitsV:Value→Bool
 | .agg l=>l.toList.all flat
 |x=>flat x
def sOf:Value→S
 | .agg l=> .agg (l.toList.map fun y=> .d (.v y))
 |x=> .one (.d (.v x))
theorem ZfM (x:Value):(sOf x).hs= []:=by
 cases x<;>simp [sOf,S.hs,C.hs]
theorem Zdx {I:Nat→Prop} {x:Value} (h:fitsV x=true):DenS w I bs mem x (sOf x):=by
 have one:∀ y:Value,flat y=true→DenC w I bs mem y (.d (.v y)):=fun y hy=>Den.v y hy
 cases x with
 |agg l=>
  refine⟨l.toList,rfl,by simp,fun j c y hj hy=> ?_⟩
  rw [List.getElem?_map,hy] at hj
  obtain rfl:=(Option.some.inj hj).symm
  exact one y (List.all_eq_true.1 h y (List.mem_of_getElem? hy))
 |_=>first|exact one _ h|exact one _ rfl
theorem ZdG {o o':Obj} {b:Nat} (h:w.heap[b]? =some o):(Go.ChangeMaps.setBlock w b o').heap[b]? =some o':=by
 have hlt:b< w.heap.size:=(Array.getElem?_eq_some_iff.1 h).1
 simp [Go.ChangeMaps.setBlock,hlt]
theorem Zcs {o':Obj} {b k:Nat} (h:k≠b):(Go.ChangeMaps.setBlock w b o').heap[k]? =w.heap[k]? :=by
 simp [Go.ChangeMaps.setBlock,Ne.symm h]
theorem ZjP:∀ (l:List S),(∀ x,x∈l→x.hs= [])→(AV.tup l).hs= []:=fun l h=>List.flatMap_eq_nil_iff.2 h
theorem Zbx (st:St w0 I0 nt env mem bs a w) {o:Nat} {lk:Option Nat} {x:Obj} (hm:mem o= .ext lk x):
  ∃ b bm,bs o= .pointer (some ⟨b,0,none⟩)∧¬ w0.K b∧(∀ m,lk=some m→bs m= .pointer (some ⟨bm,0,none⟩))∧w.heap[b]? =some (link x bm):=by
 have:=st.obs o
 rw [hm] at this
 exact this
theorem Zbb (st:St w0 I0 nt env mem bs a w) {o b:Nat} {lk:Option Nat} {x x':Obj} {y:Obj} (hm:mem o= .ext lk x) (hb:bs o= .pointer (some ⟨b,0,none⟩))
  (hy:∃ bm,(∀ m,lk=some m→bs m= .pointer (some ⟨bm,0,none⟩))∧y=link x' bm):
  St w0 I0 nt env (upd mem o (.ext lk x')) (upd bs o (bs o)) a (Go.ChangeMaps.setBlock w b y)∧∀ p,okh mem p→okh (upd mem o (.ext lk x')) p:=by
 obtain⟨b',bm',e1,hK,_,h4⟩:=Zbx st hm
 rw [hb] at e1
 obtain rfl:b'=b:=by
  have:=Value.pointer.inj e1
  have:=Option.some.inj this
  exact(congrArg Addr.block this).symm
 obtain⟨bm,hlk,rfl⟩:=hy
 have hlt:b'< w.heap.size:=(Array.getElem?_eq_some_iff.1 h4).1
 have hsz:(Go.ChangeMaps.setBlock w b' (link x' bm)).heap.size=w.heap.size:=by simp [Go.ChangeMaps.setBlock]
 have hbel:Bel w0.K w (Go.ChangeMaps.setBlock w b' (link x' bm)):=⟨rfl,rfl,rfl,by rw [hsz];exact Nat.le_refl _,fun k hk=>Zcs (fun e=>hK (e ▸ hk))⟩
 have hk:∀ k,k< w.heap.size→((mem o).mut=true→blk (bs o)≠some k)→(Go.ChangeMaps.setBlock w b' (link x' bm)).heap[k]? =w.heap[k]? :=by
  intro k _ hh
  refine Zcs fun e=> ?_
  subst e
  exact hh (by rw [hm];rfl) (by rw [hb];rfl)
 have hx:∀ k,(Ob.ext lk x').mut=true→blk (bs o)=some k→((mem o).mut=true∧blk (bs o)=some k)∨(w.heap.size≤k∧k< (Go.ChangeMaps.setBlock w b' (link x' bm)).heap.size):=fun k _ hk=> .inl ⟨by rw [hm];rfl,hk⟩
 have hv:Turns mem bs o (.ext lk x') (bs o):= .inr (.inr (.inr ⟨rfl,lk,x,lk,x',hm,rfl⟩))
 have hok:∀ p,okh mem p→okh (upd mem o (.ext lk x')) p:=fun p hp=>hv.okh rfl hp
 refine⟨st.update o (.ext lk x') (bs o) hbel hk hx hv rfl (fun p hp=>hok p (st.hmem o p (by rw [hm];exact hp))) ?_,hok⟩
 refine⟨b',bm,hb,hK,fun m hm'=> ?_,ZdG h4⟩
 by_cases e:m=o
 ·subst e;rw [Ze];exact hlk m hm'
 ·rw [Zw _ _ e];exact hlk m hm'
theorem Zif (st:St w0 I0 nt env mem bs a w) {d bm:Nat} {lk:Option Nat} {x y:Obj} (hg:mem d= .gone) (hy:y=link x bm) (hlk:∀ m,lk=some m→bs m= .pointer (some ⟨bm,0,none⟩)∧okh mem (m,0)):
  ∃ bs',St w0 I0 nt env (upd mem d (.ext lk x)) bs' a (w.alloc y)∧bs' d= .pointer (some ⟨w.heap.size,0,none⟩)∧okh (upd mem d (.ext lk x)) (d,0):=by
 subst hy
 have hb:Bel w0.K w (w.alloc (link x bm)):=st.bel ((Below.refl _ w).alloc (Nat.le_refl _) _)
 have hx:∀ b,(Ob.ext lk x).mut=true→blk (.pointer (some ⟨w.heap.size,0,none⟩))=some b→((mem d).mut=true∧blk (bs d)=some b)∨(w.heap.size≤b∧b< (w.alloc (link x bm)).heap.size):=by
  intro b _ hbx
  simp only [blk,Option.some.injEq] at hbx
  subst hbx
  exact .inr ⟨Nat.le_refl _,by simp⟩
 have hk:∀ k,k< w.heap.size→((mem d).mut=true→blk (bs d)≠some k)→(w.alloc (link x bm)).heap[k]? =w.heap[k]? :=fun k hk _=>Below.heap_alloc _ _ _ hk
 have hv:Turns mem bs d (.ext lk x) (.pointer (some ⟨w.heap.size,0,none⟩)):= .inl (by rw [hg];rfl)
 have hok:∀ p,okh mem p→okh (upd mem d (.ext lk x)) p:=fun p hp=>hv.okh rfl hp
 refine⟨upd bs d (.pointer (some ⟨w.heap.size,0,none⟩)),st.update d (.ext lk x) _ hb hk hx hv rfl ?_ ?_,Ze _ _ _,⟨by simp only [Ze];rfl,by simp only [Ze];exact Nat.zero_le _⟩⟩
 ·intro p hp
  cases lk with
  |none=>simp [Ob.hs] at hp
  |some m=>
   have:p=(m,0):=by simpa [Ob.hs] using hp
   subst this
   exact hok _ (hlk m rfl).2
 ·refine⟨w.heap.size,bm,rfl,st.newK (Nat.le_refl _),fun m hm=> ?_,heap_alloc_new w _⟩
  have h1:=(hlk m hm).2.1
  have hne:m≠d:=fun e=>by subst e;simp only [hg] at h1;simp [Ob.live] at h1
  rw [Zw _ _ hne];exact(hlk m hm).1
theorem ZbQ (hM:∀ o,mem' o= .gone∨mem' o=mem o) {o:Nat} {lk:Option Nat} {x:Obj} (h:mem' o= .ext lk x):mem o= .ext lk x:=by
 rcases hM o with e|e
 ·rw [e] at h;simp at h
 ·rw [← e];exact h
theorem den_undef' {I:Nat→Prop}:DenAV w I bs mem undef (.tup []):=⟨[],rfl,rfl,fun j s y hs=>by simp at hs⟩
def planMakeMap (mem:Mem) (dst:Option Nat) (n:Option Operand):Plan:=
 match n,dst with
 |none,some d=>match mem d with
  | .gone=> .put (.val (.one (.mp d))) d (.ext none (.map #[] 0))
  |_=> .bad
 |_,_=> .bad
theorem Zdr (st:St w0 I0 nt env mem bs a w) (o:Oper) (T:TypeId) (n:Option Operand) (ho:o.op= .makeMap T n) (hD:∀ d,o.dst=some d→mem' d=mem d):SoundPlan P w0 I0 nt env mem a w o (planMakeMap mem' o.dst n):=by
 unfold planMakeMap
 split
 ·rename_i d hd
  split
  ·rename_i hg
   rw [hD d hd] at hg
   obtain⟨bs',st',hb,hok⟩:=Zif st (d:=d) (bm:=0) (lk:=none) (x:= .map #[] 0) (y:= .map #[] 0) hg rfl (fun m hm=>by simp at hm)
   refine Za (.map (some w.heap.size)) (w':=w.alloc (.map #[] 0)) ?_ ⟨bs',st',⟨w.heap.size,hb,rfl⟩,fun p hp=> ?_⟩
   ·simp [execOp,ho,Instr.makeMap,Result.andThen]
   ·have:p=(d,0):=by simpa [AV.hs,S.hs,C.hs] using hp
    subst this;exact hok
  ·trivial
 ·trivial
def planRange (P:Program) (env:Env) (mem:Mem) (dst:Option Nat) (T:TypeId) (x:Operand):Plan:=
 match dst with
 |some d=>match opd env x with
  | .val (.one (.mp m))=>match mem d with
   | .gone=>match mem m with
    | .ext none (.map _ clock)=> .putIf (∃ k e,P.underlying T=some (.map k e)) (.val (.one (.ptr d 0))) d (.ext (some m) (.mapIter none clock #[] clock))
    |_=> .bad
   |_=> .bad
  |_=> .bad
 |none=> .bad
theorem ZeP (st:St w0 I0 nt env mem bs a w) (hE:∀ t,env' t= .junk∨env' t=env t) (hM:∀ o,mem' o= .gone∨mem' o=mem o) (o:Oper) (T:TypeId) (x:Operand) (ho:o.op= .range T x) (hD:∀ d,o.dst=some d→mem' d=mem d):
  SoundPlan P w0 I0 nt env mem a w o (planRange P env' mem' o.dst T x):=by
 obtain⟨h1,h2⟩:=Zb st hE x
 unfold planRange
 split
 ·rename_i d hd
  split
  ·rename_i m hx
   rw [hx] at h1 h2
   split
   ·rename_i hg
    rw [hD d hd] at hg
    split
    ·rename_i es clock hm
     have hm':=ZbQ hM hm
     intro ⟨k,e,hT⟩
     obtain⟨b,hb,ex⟩:=h1
     obtain⟨b',bm,g1,g2,_,g4⟩:=Zbx st hm'
     obtain rfl:b'=b:=by
      rw [hb] at g1
      have:=Value.pointer.inj g1
      have:=Option.some.inj this
      exact(congrArg Addr.block this).symm
     obtain⟨bs',st',hb',hok⟩:=Zif st (d:=d) (bm:=b') (lk:=some m) (x:= .mapIter none clock #[] clock) (y:= .mapIter (some b') clock #[] clock) hg rfl
      (fun m' hm'=>by obtain rfl:=Option.some.inj hm';exact⟨hb,h2 (m,0) (by simp [AV.hs,S.hs,C.hs])⟩)
     refine Za (.pointer (some ⟨w.heap.size,0,none⟩)) (w':=w.alloc (.mapIter (some b') clock #[] clock)) ?_ ⟨bs',st',⟨w.heap.size,hb',rfl⟩,fun p hp=> ?_⟩
     ·have:=run_range_map (P:=P) w T k e b' es clock hT g4
      simp only [execOp,ho,ex,Sem.run_bind,this,Result.andThen_ok,Sem.run_pure]
     ·have:p=(d,0):=by simpa [AV.hs,S.hs,C.hs] using hp
      subst this;exact hok
    ·trivial
   ·trivial
  ·trivial
 ·trivial
def MapStep {α:Type} (P:Program) (i:Value→Sem α) (r:α) (x y:Obj):Prop:=∀ (w:World) (b:Nat),w.heap[b]? =some x→(i (.map (some b))).run P w= .ok r (Go.ChangeMaps.setBlock w b y)
def planMapUpdate (P:Program) (env:Env) (mem:Mem) (T:TypeId) (m k v:Operand):Plan:=
 match opd env m with
 | .val (.one (.mp o))=>match mem o with
  | .ext none (.map es clock)=>valK (opd env k) (fun kv=>valK (opd env v) (fun vv=> .askE o none fun r y=>r= .tup []∧∃ es' clock',y= .map es' clock'∧MapStep P (fun m=>Instr.mapUpdate T m kv vv) () (.map es clock) (.map es' clock')) .bad) .bad
  |_=> .bad
 |_=> .bad
theorem Zcb (st:St w0 I0 nt env mem bs a w) (hE:∀ t,env' t= .junk∨env' t=env t) (hM:∀ o,mem' o= .gone∨mem' o=mem o) (o:Oper) (T:TypeId) (m k v:Operand) (ho:o.op= .mapUpdate T m k v):
  SoundPlan P w0 I0 nt env mem a w o (planMapUpdate P env' mem' T m k v):=by
 obtain⟨h1,h2⟩:=Zb st hE m
 obtain⟨k1,_⟩:=Zb st hE k
 obtain⟨v1,_⟩:=Zb st hE v
 unfold planMapUpdate
 split
 ·rename_i q hx
  rw [hx] at h1 h2
  split
  ·rename_i es clock hm
   have hm':=ZbQ hM hm
   rcases Zaa (opd env' k) (fun kv=>valK (opd env' v) (fun vv=>Plan.askE q none fun r y=>r= .tup []∧∃ es' clock',y= .map es' clock'∧MapStep P (fun m=>Instr.mapUpdate T m kv vv) () (.map es clock) (.map es' clock')) .bad) .bad with ⟨kv,e1,g1⟩|e1
   ·rw [e1]
    rcases Zaa (opd env' v) (fun vv=>Plan.askE q none fun r y=>r= .tup []∧∃ es' clock',y= .map es' clock'∧MapStep P (fun m=>Instr.mapUpdate T m kv vv) () (.map es clock) (.map es' clock')) .bad with ⟨vv,e2,g2⟩|e2
    ·rw [e2]
     intro r y ⟨hr,es',clock',hy,hs⟩
     subst hr;subst hy
     obtain⟨b,hb,ex⟩:=h1
     obtain⟨b',bm,f1,f2,_,f4⟩:=Zbx st hm'
     obtain rfl:b'=b:=by
      rw [hb] at f1
      have:=Value.pointer.inj f1
      have:=Option.some.inj this
      exact(congrArg Addr.block this).symm
     obtain⟨st',hok⟩:=Zbb st (x':= .map es' clock') (y:= .map es' clock') hm' hb ⟨0,fun m hm=>by simp at hm,rfl⟩
     refine ZcA (w':=Go.ChangeMaps.setBlock w b' (.map es' clock')) ?_ ⟨_,st',den_undef',fun p hp=>by simp [AV.hs] at hp⟩
     have:=hs w b' f4
     have ek:=g1 _ _ _ _ _ k1
     have ev:=g2 _ _ _ _ _ v1
     simp only [execOp,ho,ex,ek,ev,Sem.run_bind,this,Result.andThen_ok,Sem.run_pure]
    ·rw [e2];trivial
   ·rw [e1];trivial
  ·trivial
 ·trivial
def planDelete (P:Program) (env:Env) (mem:Mem) (ty:TypeId) (ts:List TypeId) (xs:List Operand):Plan:=
 match xs with
 | [m,k]=>match opd env m with
  | .val (.one (.mp o))=>match mem o with
   | .ext none (.map es clock)=>valK (opd env k) (fun kv=> .askE o none fun r y=>r= .tup []∧∃ es' clock',y= .map es' clock'∧MapStep P (fun m=>Builtin.delete_ ⟨ts⟩ ty #[m,kv]) undef (.map es clock) (.map es' clock')) .bad
   |_=> .bad
  |_=> .bad
 |_=> .bad
theorem Zd5 (st:St w0 I0 nt env mem bs a w) (hE:∀ t,env' t= .junk∨env' t=env t) (hM:∀ o,mem' o= .gone∨mem' o=mem o) (o:Oper) (xs:List Operand) (ts:List TypeId) (ho:o.op= .call { callee:= .builtin .delete,args:=⟨xs⟩,argTypes:=⟨ts⟩ }):
  SoundPlan P w0 I0 nt env mem a w o (planDelete P env' mem' o.type ts xs):=by
 unfold planDelete
 split
 ·rename_i m k
  obtain⟨h1,h2⟩:=Zb st hE m
  obtain⟨k1,_⟩:=Zb st hE k
  split
  ·rename_i q hx
   rw [hx] at h1 h2
   split
   ·rename_i es clock hm
    have hm':=ZbQ hM hm
    rcases Zaa (opd env' k) (fun kv=>Plan.askE q none fun r y=>r= .tup []∧∃ es' clock',y= .map es' clock'∧MapStep P (fun m=>Builtin.delete_ ⟨ts⟩ o.type #[m,kv]) undef (.map es clock) (.map es' clock')) .bad with ⟨kv,e1,g1⟩|e1
    ·rw [e1]
     intro r y ⟨hr,es',clock',hy,hs⟩
     subst hr;subst hy
     obtain⟨b,hb,ex⟩:=h1
     obtain⟨b',bm,f1,f2,_,f4⟩:=Zbx st hm'
     obtain rfl:b'=b:=by
      rw [hb] at f1
      have:=Value.pointer.inj f1
      have:=Option.some.inj this
      exact(congrArg Addr.block this).symm
     obtain⟨st',hok⟩:=Zbb st (x':= .map es' clock') (y:= .map es' clock') hm' hb ⟨0,fun m hm=>by simp at hm,rfl⟩
     refine Za undef (w':=Go.ChangeMaps.setBlock w b' (.map es' clock')) (Zq ho ?_) ⟨_,st',den_undef',fun p hp=>by simp [AV.hs] at hp⟩
     have:=hs w b' f4
     have ek:=g1 _ _ _ _ _ k1
     simp only [builtin,List.map_toArray,List.map_cons,List.map_nil,ex,ek,Sem.run_bind,this,Result.andThen_ok,Sem.run_pure]
    ·rw [e1];trivial
   ·trivial
  ·trivial
 ·trivial
def planLenM (P:Program) (TB:List (Nat×Ty)) (env:Env) (mem:Mem) (ts:List TypeId) (xs:List Operand):Plan:=
 match xs,ts with
 | [x],t :: _=>match opd env x with
  | .val (.one (.mp o))=>match mem o with
   | .ext none (.map es _)=> .ask fun r=>(∃ k e,P.underlying t=some (.map k e))∧r=one (.int .i64 (es.size:Int))
   |_=> .bad
  |_=>planLenX TB env mem ts xs
 |_,_=>planLenX TB env mem ts xs
theorem ZgF {TB:List (Nat×Ty)} (hTB:TBok P TB) (st:St w0 I0 nt env mem bs a w) (hE:∀ t,env' t= .junk∨env' t=env t) (hM:∀ o,mem' o= .gone∨mem' o=mem o)
  (o:Oper) (xs:List Operand) (ts:List TypeId) (ho:o.op= .call { callee:= .builtin .len,args:=⟨xs⟩,argTypes:=⟨ts⟩ }):SoundPlan P w0 I0 nt env mem a w o (planLenM P TB env' mem' ts xs):=by
 have base:=ZgE (P:=P) hTB st hE hM o xs ts ho
 unfold planLenM
 split
 ·rename_i x t ts'
  split
  ·rename_i q hx
   obtain⟨h1,_⟩:=Zb st hE x
   rw [hx] at h1
   split
   ·rename_i es clock hm
    have hm':=ZbQ hM hm
    intro r ⟨⟨k,e,hT⟩,hr⟩
    subst hr
    obtain⟨b,hb,ex⟩:=h1
    obtain⟨b',bm,f1,f2,_,f4⟩:=Zbx st hm'
    obtain rfl:b'=b:=by
     rw [hb] at f1
     have:=Value.pointer.inj f1
     have:=Option.some.inj this
     exact(congrArg Addr.block this).symm
    refine Za (.int .i64 (es.size:Int)) (Zq ho ?_) (Zc st (Den.v _ rfl) (fun p hp=>by simp [one,AV.hs,S.hs,C.hs] at hp))
    have hr:(Builtin.len_ ⟨t :: ts'⟩ o.type #[a.eval x]).run P w= .ok (.int .i64 (es.size:Int)) w:=by
     rw [ex]
     simp [Builtin.len_,run_underlying hT,Go.MapKept.run_getObj_map (es:=es) (clock:=clock) f4,goInt,Result.andThen]
    simp only [builtin,Sem.run_bind,List.map_toArray,List.map_cons,List.map_nil,hr,Result.andThen_ok,Sem.run_pure]
   ·trivial
  ·exact base
 ·exact base
def NextIs (es:Array MapEntry) (clock since last:Nat) (seen:Array Nat) (r:AV) (y:Obj):Prop:=
 ((leftOf es seen).size=0∧r= .tup [.one (.d (.v (.bool false)))]∧y= .mapIter none since seen last)∨
 ∃ e,e∈(leftOf es seen).toList∧r= .tup [.one (.d (.v (.bool true))),sOf e.key,sOf e.val]∧y= .mapIter none since (seen.push e.born) clock
def planNext (env:Env) (mem:Mem) (x:Operand) (str:Bool):Plan:=
 match str,opd env x with
 |false,.val (.one (.ptr r 0))=>match mem r with
  | .ext (some m) (.mapIter none since seen last)=>match mem m with
   | .ext none (.map es clock)=> .dem ((∀ e,e∈es.toList→e.born< since∧fitsV e.key=true∧fitsV e.val=true)∧since≤last) r (some m) (NextIs es clock since last seen)
   |_=> .bad
  |_=> .bad
 |_,_=> .bad
theorem ZgC (st:St w0 I0 nt env mem bs a w) (hE:∀ t,env' t= .junk∨env' t=env t) (hM:∀ o,mem' o= .gone∨mem' o=mem o) (o:Oper) (x:Operand) (str:Bool) (ho:o.op= .next x str):
  SoundPlan P w0 I0 nt env mem a w o (planNext env' mem' x str):=by
 obtain⟨h1,h2⟩:=Zb st hE x
 unfold planNext
 split
 ·rename_i r hx
  rw [hx] at h1 h2
  split
  ·rename_i m since seen last hr
   have hr':=ZbQ hM hr
   split
   ·rename_i es clock hm
    have hm':=ZbQ hM hm
    intro ⟨hes,hsl⟩
    obtain⟨b,hb,ex⟩:=h1
    obtain⟨b',bm,f1,f2,f3,f4⟩:=Zbx st hr'
    obtain rfl:b'=b:=by
     rw [hb] at f1
     have:=Value.pointer.inj f1
     have:=Option.some.inj this
     exact(congrArg Addr.block this).symm
    obtain⟨bb,bm2,g1,g2,_,g4⟩:=Zbx st hm'
    obtain rfl:bb=bm:=by
     rw [f3 m rfl] at g1
     have:=Value.pointer.inj g1
     have:=Option.some.inj this
     exact(congrArg Addr.block this).symm
    have hd:∀ e,e∈(leftOf es seen).toList→e∈es.toList:=fun e he=>(mem_left he).1
    rcases run_next_at (P:=P) w o.type b' bb since last seen es clock f4 g4 (fun e he=>(hes e he).1) hsl with ⟨h0,hrun⟩|⟨e,he,w1,hw,hrun⟩
    ·have hmem:upd mem r (.ext (some m) (.mapIter none since seen last))=mem:=by
      funext i
      by_cases e:i=r
      ·subst e;rw [Ze,hr']
      ·rw [Zw _ _ e]
     refine Za (.tuple #[.bool false]) (w':=w) ?_ ⟨.tup [.one (.d (.v (.bool false)))],.mapIter none since seen last,.inl ⟨h0,rfl,rfl⟩,rfl,?_⟩
     ·simp only [execOp,ho,ex,Sem.run_bind,hrun,Result.andThen_ok,Sem.run_pure]
     ·rw [hmem]
      refine⟨bs,st,⟨[.bool false],rfl,rfl,fun j s y hs hy=> ?_⟩,fun p hp=>by simp [AV.hs,S.hs,C.hs] at hp⟩
      cases j with
      |zero=>
       obtain rfl:=Option.some.inj hs
       obtain rfl:=Option.some.inj hy
       exact Den.v _ rfl
      |succ j=>simp at hs
    ·have st1:St w0 I0 nt env mem bs a w1:=by
      rcases hw with rfl|rfl
      ·exact st
      ·exact st.drew
     obtain⟨st',hok⟩:=Zbb st1 (x':= .mapIter none since (seen.push e.born) clock) (y:= .mapIter (some bb) since (seen.push e.born) clock) hr' hb ⟨bb,f3,rfl⟩
     refine Za (.tuple #[.bool true,e.key,e.val]) (w':=Go.ChangeMaps.setBlock w1 b' (.mapIter (some bb) since (seen.push e.born) clock)) ?_
      ⟨.tup [.one (.d (.v (.bool true))),sOf e.key,sOf e.val],.mapIter none since (seen.push e.born) clock,.inr ⟨e,he,rfl,rfl⟩,rfl,_,st',⟨[.bool true,e.key,e.val],rfl,rfl,fun j s y hs hy=> ?_⟩,fun p hp=> ?_⟩
     ·simp only [execOp,ho,ex,Sem.run_bind,hrun,Result.andThen_ok,Sem.run_pure]
     ·obtain⟨_,q1,q2⟩:=hes e (hd e he)
      rcases j with _|_|_|j
      ·obtain rfl:=Option.some.inj hs
       obtain rfl:=Option.some.inj hy
       exact Den.v _ rfl
      ·obtain rfl:=Option.some.inj hs
       obtain rfl:=Option.some.inj hy
       exact Zdx q1
      ·obtain rfl:=Option.some.inj hs
       obtain rfl:=Option.some.inj hy
       exact Zdx q2
      ·simp at hs
     ·rw [ZjP _ (fun x hx=>by
       rcases List.mem_cons.1 hx with rfl|hx
       ·rfl
       ·rcases List.mem_cons.1 hx with rfl|hx
        ·exact ZfM _
        ·rcases List.mem_cons.1 hx with rfl|hx
         ·exact ZfM _
         ·simp at hx)] at hp
      simp at hp
   ·trivial
  ·trivial
 ·trivial
def planEntry (env:Env) (mem:Mem) (x:Operand):Plan:=
 match opd env x with
 | .val (.one (.ptr r 0))=>match mem r with
  | .ext (some m) (.mapIter none _ seen last)=>match mem m with
   | .ext none (.map es clock)=> .ask fun v=>∃ (seen':Array Nat) (e:MapEntry),seen=seen'.push e.born∧last=clock∧e∈es.toList∧(es.toList.map (·.born)).Nodup∧fitsV e.key=true∧fitsV e.val=true∧v= .tup [sOf e.key,sOf e.val]
   |_=> .bad
  |_=> .bad
 |_=> .bad
theorem ZeR (st:St w0 I0 nt env mem bs a w) (hE:∀ t,env' t= .junk∨env' t=env t) (hM:∀ o,mem' o= .gone∨mem' o=mem o) (o:Oper) (x:Operand) (ho:o.op= .entry x):
  SoundPlan P w0 I0 nt env mem a w o (planEntry env' mem' x):=by
 obtain⟨h1,h2⟩:=Zb st hE x
 unfold planEntry
 split
 ·rename_i r hx
  rw [hx] at h1 h2
  split
  ·rename_i m since seen last hr
   have hr':=ZbQ hM hr
   split
   ·rename_i es clock hm
    have hm':=ZbQ hM hm
    intro v ⟨seen',e,hseen,hlast,he,hnd,q1,q2,hv⟩
    subst hv;subst hseen;subst hlast
    obtain⟨b,hb,ex⟩:=h1
    obtain⟨b',bm,f1,f2,f3,f4⟩:=Zbx st hr'
    obtain rfl:b'=b:=by
     rw [hb] at f1
     have:=Value.pointer.inj f1
     have:=Option.some.inj this
     exact(congrArg Addr.block this).symm
    obtain⟨bb,bm2,g1,g2,_,g4⟩:=Zbx st hm'
    obtain rfl:bb=bm:=by
     rw [f3 m rfl] at g1
     have:=Value.pointer.inj g1
     have:=Option.some.inj this
     exact(congrArg Addr.block this).symm
    have hrun:=run_entry_at (P:=P) w b' bb since seen' es _ e f4 g4 he hnd
    refine Za (.tuple #[e.key,e.val]) ?_ (Zc st ⟨[e.key,e.val],rfl,rfl,fun j s y hs hy=> ?_⟩ fun p hp=> ?_)
    ·simp only [execOp,ho,ex,Sem.run_bind,hrun,Result.andThen_ok,Sem.run_pure]
    ·rcases j with _|_|j
     ·obtain rfl:=Option.some.inj hs
      obtain rfl:=Option.some.inj hy
      exact Zdx q1
     ·obtain rfl:=Option.some.inj hs
      obtain rfl:=Option.some.inj hy
      exact Zdx q2
     ·simp at hs
    ·rw [ZjP _ (fun x hx=>by
      rcases List.mem_cons.1 hx with rfl|hx
      ·exact ZfM _
      ·rcases List.mem_cons.1 hx with rfl|hx
       ·exact ZfM _
       ·simp at hx)] at hp
     simp at hp
   ·trivial
  ·trivial
 ·trivial
end
structure Prm where
 P:Program
 G:World→Prop
 TB:List (Nat×Ty)
 nt:Shape
 own:List Nat
def handles:AV→List Nat
 | .val (.one (.ptr o _))=> [o]
 | .val (.one (.row o _))=> [o]
 | .val (.one (.rp o _ _ _ _))=> [o]
 | .val (.one (.rs o _ _ _))=> [o]
 | .val (.one (.mp o))=> [o]
 | .val (.agg cs)=>cs.flatMap fun c=>match c with
  | .row o _=> [o]
  | .ptr o _=> [o]
  |_=> []
 |_=> []
def readsOf (o:Oper) (env:Env):List Nat:=
 match o.op with
 | .alloc _=>o.dst.toList
 | .box _ _=>o.dst.toList
 | .assign x=>handles (opd env x)
 | .load _ x=>handles (opd env x)
 | .fieldAddr _ x _=>handles (opd env x)
 | .makeSlice _ _ _=>o.dst.toList
 | .convert _ _ x=>handles (opd env x)
 | .store _ x y=>handles (opd env x)++handles (opd env y)
 | .indexAddr _ x _=>handles (opd env x)
 | .buildSlice _ _ ps=>o.dst.toList++ps.toList.flatMap fun p=>handles (opd env p.2)
 | .slice _ x _ _ _=>handles (opd env x)
 | .makeInterface _ x=>handles (opd env x)
 | .makeMap _ _=>o.dst.toList
 | .range _ x=>o.dst.toList++handles (opd env x)
 | .mapUpdate _ x _ _=>handles (opd env x)
 | .binOp _ _ x _ _=>handles (opd env x)
 | .call c=>match c.callee with
  | .builtin _=>o.dst.toList++c.args.toList.flatMap fun x=>handles (opd env x)
  |_=>o.dst.toList++c.args.toList.flatMap fun x=>handles (opd env x)
 |_=> []
noncomputable def planV (p:Prm) (o:Oper) (env:Env) (mem:Mem):Plan:=
 match o.op with
 | .move x=> .ret (opd env x)
 | .assign x=>bif ownT p.own (o.dst.map (· +400000)) then planAssignF env mem x else .ret (opd env x)
 | .pick c x y=>planPick env c x y
 | .alloc T=>planAlloc p.TB mem o.dst T
 | .box T x=>planBox env mem o.dst T x
 | .load T x=>planLoad p.TB env mem T x
 | .store T x y=>planStoreG p.TB env mem T x y
 | .fieldAddr T x f=>planFieldAddr p.TB env mem T x f
 | .field T x f=>planField p.TB env T x f
 | .makeSlice T l c=>planMakeSlice p.TB env mem o.dst T l c
 | .index T x i=>planIndexV p.TB env T x i
 | .convert s t x=>planConvert p.P env mem s t x
 | .build T ps=>planBuild p.TB env T ps.toList
 | .extract x i=>planExtract env x i
 | .binOp op T x y _=>planBinR p.P env mem op T x y
 | .unOp op _ x=>planUn env op x
 | .indexAddr T x i=>planIndexAddrX p.TB env mem T x i
 | .buildSlice T n ps=>bif ownT p.own o.dst then planBuildOwn p.TB env mem o.dst T n ps.toList else planBuildSliceF p.TB env mem T n ps.toList
 | .slice T x lo hi mx=>planSliceX p.P p.TB env mem T x lo hi mx
 | .makeInterface T x=>planMakeIface p.P env mem T x
 | .nilCheck x=>planNilCheck env x
 | .makeMap _ n=>planMakeMap mem o.dst n
 | .range T x=>planRange p.P env mem o.dst T x
 | .mapUpdate T m k v=>planMapUpdate p.P env mem T m k v
 | .makeFunc fn first caps=>planMakeFunc env fn first.toList caps.toList
 | .call c=>match c.callee with
  | .value f=>bif ownT p.own (o.dst.map (· +800000)) then planCallV p.P p.G env mem o.dst f c.args.toList else bif ownT p.own (o.dst.map (· +700000)) then planCallN p.P p.G env mem o.dst f c.args.toList else bif ownT p.own (o.dst.map (· +600000)) then planCallTB p.P p.G env mem o.dst f c.args.toList else bif ownT p.own (o.dst.map (· +500000)) then planCallS p.P p.G env mem o.dst f c.args.toList else bif ownT p.own (o.dst.map (· +300000)) then planCallB p.P p.G env mem o.dst f c.args.toList else bif ownT p.own (o.dst.map (· +200000)) then planCallX p.P env f c.args.toList else bif ownT p.own (o.dst.map (· +100000)) then planCallL p.P p.G env mem o.dst f c.args.toList else bif ownT p.own o.dst then planCallT p.P p.G env mem o.dst f c.args.toList else planCallG p.P p.G env mem o.dst f c.args.toList
  | .builtin b=>match b with
   | .len=>planLenM p.P p.TB env mem c.argTypes.toList c.args.toList
   | .delete=>planDelete p.P env mem o.type c.argTypes.toList c.args.toList
   | .clear=>planClear p.TB env mem c.argTypes.toList c.args.toList
   | .append=>planAppendG p.P p.TB env mem o.dst c.argTypes.toList c.args.toList
   | .max=>planMM env true c.args.toList
   | .min=>planMM env false c.args.toList
   | .cap=>planCap p.TB env c.argTypes.toList c.args.toList
   |_=> .bad
  | .invoke recv name=>planInvoke p.P p.G env mem recv name c.args.toList
 |_=> .bad
def memb (t:Nat):List Nat→Bool
 | []=>false
 |x :: r=>bif Nat.beq x t then true else memb t r
theorem ZaD {t:Nat} {l:List Nat}:memb t l=true↔t∈l:=by
 induction l with
 |nil=>simp [memb]
 |cons x r ih=>
  rw [memb,List.mem_cons]
  cases e:Nat.beq x t with
  |true=>
   obtain rfl:=Nat.eq_of_beq_eq_true e
   simp
  |false=>
   have:t≠x:=fun h=>by subst h;simp at e
   simp only [cond_false,ih,this,false_or]
def tmpsOf:List Operand→List Nat
 | []=> []
 |x :: r=>match x with
  | .tmp t=>t :: tmpsOf r
  |_=>tmpsOf r
def tempsOf (o:Oper):List Nat:=tmpsOf o.op.operands.toList
noncomputable def plan (p:Prm) (o:Oper) (env:Env) (mem:Mem):Plan:=
 planV p o (fun t=>bif memb t (tempsOf o) then env t else .junk) (fun i=>bif memb i (readsOf o (fun t=>bif memb t (tempsOf o) then env t else .junk)) then mem i else .gone)
def putE (dst:Option Nat) (r:AV) (env:Env):Env:=
 match dst with
 |some i=>upd env i r
 |none=>env
def putM (wr:Option (Nat×Ob)) (mem:Mem):Mem:=
 match wr with
 |some p=>upd mem p.1 p.2
 |none=>mem
def dstOk (nt:Shape):Option Nat→Bool
 |none=>true
 |some d=>Nat.blt d nt.n&& !memb d nt.pins
section
variable {p : Prm} {w0 : Base} {I0 : Nat → Prop} {env : Env} {mem : Mem} {bs : Bs} {a : Act} {w : World}
theorem Zfc (hTB:TBok p.P p.TB) (hG:∀ w',Bel w0.K w w'→p.G w') (st:St w0 I0 p.nt env mem bs a w) (o:Oper) (env':Env) (mem':Mem) (hE:∀ t,env' t= .junk∨env' t=env t) (hM:∀ i,mem' i= .gone∨mem' i=mem i)
  (hR:∀ i,i∈readsOf o env'→mem' i=mem i):SoundPlan p.P w0 I0 p.nt env mem a w o (planV p o env' mem'):=by
 unfold planV
 split
 ·rename_i x ho;exact ZbC st hE o x (.inl ho)
 ·rename_i x ho
  cases ownT p.own (o.dst.map (· +400000)) with
  |true=>exact Zdu st hE hM o x ho
  |false=>exact ZbC st hE o x (.inr ho)
 ·rename_i c x y ho;exact ZgB st hE o c x y ho
 ·rename_i T ho;exact Ze2 hTB st o T ho (fun d hd=>hR d (by simp [readsOf,ho,hd]))
 ·rename_i T x ho;exact Zho st hE o T x ho (fun d hd=>hR d (by simp [readsOf,ho,hd]))
 ·rename_i T x ho;exact ZgD hTB st hE hM o T x ho
 ·rename_i T x y ho;exact ZdW hTB st hE hM o T x y ho
 ·rename_i T x f ho;exact Zcf hTB st hE hM o T f x ho
 ·rename_i T x f ho;exact ZeQ hTB st hE o T f x ho
 ·rename_i T l c ho;exact Zcc hTB st hE o T l c ho (fun d hd=>hR d (by simp [readsOf,ho,hd]))
 ·rename_i T x i ho;exact Zd4 hTB st hE o T x i ho
 ·rename_i s t x ho;exact Zdt st hE hM o s t x ho
 ·rename_i T ps ho;exact Ze1 hTB st hE o T ps ho
 ·rename_i x i ho;exact Zds st hE o x i ho
 ·rename_i op T x y yT ho;exact ZgG st hE hM o op T yT x y ho
 ·rename_i op T x ho;exact ZiP st hE o op T x ho
 ·rename_i T x i ho;exact ZbW hTB st hE hM o T x i ho
 ·rename_i T n ps ho
  cases ownT p.own o.dst with
  |true=>exact ZcO hTB st hE hM o T n ps ho (fun d hd=>hR d (by simp [readsOf,ho,hd]))
  |false=>exact ZbD hTB st hE hM o T n ps ho
 ·rename_i T x lo hi mx ho;exact ZdY hTB st hE hM o T x lo hi mx ho
 ·rename_i T x ho;exact Zcd st hE hM o T x ho
 ·rename_i x ho;exact ZcL st hE o x ho
 ·rename_i T n ho;exact Zdr st o T n ho (fun d hd=>hR d (by simp [readsOf,ho,hd]))
 ·rename_i T x ho;exact ZeP st hE hM o T x ho (fun d hd=>hR d (by simp [readsOf,ho,hd]))
 ·rename_i T m k v ho;exact Zcb st hE hM o T m k v ho
 ·rename_i fn first caps ho;exact ZcM st hE o fn first caps ho
 ·rename_i c ho
  obtain⟨callee,args,ts⟩:=c
  split
  ·rename_i f hf
   simp only at hf;subst hf
   cases ownT p.own (o.dst.map (· +800000)) with
   |true=>exact ZeU hG st hE hM o o.dst f args.toList ts ho
   |false=>
   cases ownT p.own (o.dst.map (· +700000)) with
   |true=>exact ZeX (hG w (Bel.refl _ _)) st hE hM o o.dst f args.toList ts ho (fun d hd=>hR d (by simp [readsOf,ho,hd]))
   |false=>
   cases ownT p.own (o.dst.map (· +600000)) with
   |true=>exact Zd6 hG st hE hM o o.dst f args.toList ts ho (fun d hd=>hR d (by simp [readsOf,ho,hd]))
   |false=>
   cases ownT p.own (o.dst.map (· +500000)) with
   |true=>exact ZeW hG st hE hM o o.dst f args.toList ts ho (fun d hd=>hR d (by simp [readsOf,ho,hd]))
   |false=>
   cases ownT p.own (o.dst.map (· +300000)) with
   |true=>exact Ze0 (hG w (Bel.refl _ _)) st hE hM o o.dst f args.toList ts ho (fun d hd=>hR d (by simp [readsOf,ho,hd]))
   |false=>
   cases ownT p.own (o.dst.map (· +200000)) with
   |true=>exact ZeT st hE o f args.toList ts ho
   |false=>
    cases ownT p.own (o.dst.map (· +100000)) with
    |true=>exact ZeY hG st hE hM o o.dst f args.toList ts ho (fun d hd=>hR d (by simp [readsOf,ho,hd]))
    |false=>
     cases ownT p.own o.dst with
     |true=>exact ZeV hG st hE hM o o.dst f args.toList ts ho (fun d hd=>hR d (by simp [readsOf,ho,hd]))
     |false=>exact ZeZ (hG w (Bel.refl _ _)) st hE hM o o.dst f args.toList ts ho (fun d hd=>hR d (by simp [readsOf,ho,hd]))
  ·rename_i b hb
   simp only at hb;subst hb
   split
   ·exact ZgF hTB st hE hM o args.toList ts.toList ho
   ·exact Zd5 st hE hM o args.toList ts.toList ho
   ·exact ZeS hTB st hE hM o args.toList ts.toList ho
   ·exact Zdv hTB st hE hM o args.toList ts.toList ho (fun d hd=>hR d (by simp [readsOf,ho,hd]))
   ·exact ZfI st hE o true args.toList ts ho
   ·exact ZfI st hE o false args.toList ts ho
   ·exact Zhn hTB st hE o args.toList ts.toList ho
   ·trivial
  ·rename_i recv name hb
   simp only at hb;subst hb
   exact Zd3 (hG w (Bel.refl _ _)) st hE hM o recv name args.toList ts ho
 ·trivial
theorem ZgL (hTB:TBok p.P p.TB) (hG:∀ w',Bel w0.K w w'→p.G w') (st:St w0 I0 p.nt env mem bs a w) (o:Oper):SoundPlan p.P w0 I0 p.nt env mem a w o (plan p o env mem):=by
 refine Zfc hTB hG st o _ _ (fun t=> ?_) (fun i=> ?_) (fun i hi=> ?_)
 ·cases memb t (tempsOf o) with
  |true=>exact .inr rfl
  |false=>exact .inl rfl
 ·cases memb i (readsOf o (fun t=>bif memb t (tempsOf o) then env t else .junk)) with
  |true=>exact .inr rfl
  |false=>exact .inl rfl
 ·rw [ZaD.2 hi];rfl
theorem ZgM (o:Oper) {env':Env} {mem':Mem} (hE:∀ t,t∈tempsOf o→env' t=env t) (hM:∀ i,i∈readsOf o (fun t=>bif memb t (tempsOf o) then env t else .junk)→mem' i=mem i):plan p o env' mem'=plan p o env mem:=by
 have e:(fun t=>bif memb t (tempsOf o) then env' t else AV.junk)=fun t=>bif memb t (tempsOf o) then env t else AV.junk:=by
  funext t
  cases h:memb t (tempsOf o) with
  |true=>exact hE t (ZaD.1 h)
  |false=>rfl
 unfold plan
 rw [e]
 congr 1
 funext i
 cases h:memb i (readsOf o (fun t=>bif memb t (tempsOf o) then env t else .junk)) with
 |true=>exact hM i (ZaD.1 h)
 |false=>rfl
end
structure Tr where
 rd:List Nat
 wr:Option Nat
def guardTmp (all:List Oper) (o:Oper):Option Nat:=
 match o.guard with
 |none=>none
 |some g=>match all[g.1]? with
  |some q=>q.dst
  |none=>none
def guardK (all:List Oper) (o:Oper) (env:Env) (run skip:Env→Prop):Prop:=
 match o.guard with
 |none=>run env
 |some g=>match guardTmp all o with
  |some t=>match env t with
   | .val (.one (.d (.v (.bool b))))=>@Bool.rec (fun _=>Prop) (bif g.2 then skip (upd env t (one (.bool false))) else run (upd env t (one (.bool false)))) (bif g.2 then run (upd env t (one (.bool true))) else skip (upd env t (one (.bool true)))) b
   | .tup l=>(match l with
    | []=>skip env
    |_=>False)
   |_=>False
  |none=>False
theorem fork {b:Bool} {kt kf:Prop} (h1:b=true→kt) (h0:b=false→kf):@Bool.rec (fun _=>Prop) kf kt b:=by
 cases b<;>first|exact h1 rfl|exact h0 rfl
def rdOf (o:Oper) (env:Env):List Nat:=readsOf o (fun t=>bif memb t (tempsOf o) then env t else .junk)
def newK (v:AV) (kn:Nat→Nat→List (List D)→Prop) (k:AV→Prop):Prop:=
 match v with
 | .new T n xs=>kn T n xs
 |v=>k v
theorem ZdC {v:AV} {kn:Nat→Nat→List (List D)→Prop} {k:AV→Prop} (h:newK v kn k):(∃ T n xs,v= .new T n xs∧kn T n xs)∨(v.isNew=false∧k v):=by
 cases v with
 |new T n xs=>exact .inl ⟨T,n,xs,rfl,h⟩
 |val s=>exact .inr ⟨rfl,h⟩
 |tup s=>exact .inr ⟨rfl,h⟩
 |junk=>exact .inr ⟨rfl,h⟩
def spOp (p:Prm) (all:List Oper) (_K:List Tr→Env→Mem→Prop) (o:Oper) (next:List Tr→Env→Mem→Prop) (tr:List Tr) (env:Env) (mem:Mem):Prop:=
  bif dstOk p.nt o.dst then
   guardK all o env
    (fun env=>match plan p o env mem with
     | .ret v=>forceK (rdOf o env) fun rd=>next (⟨rd,none⟩ :: tr) (putE o.dst v env) mem
     | .put v id ob=>forceK (rdOf o env) fun rd=>next (⟨rd,some id⟩ :: tr) (putE o.dst v env) (upd mem id ob)
     | .putIf pre v id ob=>forceK (rdOf o env) fun rd=>pre∧next (⟨rd,some id⟩ :: tr) (putE o.dst v env) (upd mem id ob)
     | .ask Φ=>forceK (rdOf o env) fun rd=>∃ v,Φ v∧next (⟨rd,none⟩ :: tr) (putE o.dst v env) mem
     | .askF id ob Φ=>forceK (rdOf o env) fun rd=>∃ v,Φ v∧newK v (fun _ _ _=>False) (fun v=>next (⟨rd,some id⟩ :: tr) (putE o.dst v env) (upd mem id ob))
     | .askN d Φ=>forceK (rdOf o env) fun rd=>∃ v,Φ v∧newK v (fun T n xs=>match d with
      |some d=>next (⟨rd,some d⟩ :: tr) (putE o.dst (.val (.one (.row d 0))) env) (upd mem d (.row T n 0 xs true))
      |none=>False) (fun v=>next (⟨rd,none⟩ :: tr) (putE o.dst v env) mem)
     | .askT id k Φ=>forceK (rdOf o env) fun rd=>∃ T n xs,Φ T n xs∧next (⟨rd,some id⟩ :: tr) (putE o.dst (.val (.one (.row id k))) env) (upd mem id (.row T n k xs true))
     | .askS id T n k Φ=>forceK (rdOf o env) fun rd=>∃ v ys,Φ v ys∧newK v (fun _ _ _=>False) (fun v=>next (⟨rd,some id⟩ :: tr) (putE o.dst v env) (upd mem id (.row T n k ys true)))
     | .askV id T Φ=>forceK (rdOf o env) fun rd=>∃ v ds,Φ v ds∧newK v (fun _ _ _=>False) (fun v=>next (⟨rd,some id⟩ :: tr) (putE o.dst v env) (upd mem id (.var T (ds.map C.d))))
     | .askE id lk Φ=>forceK (rdOf o env) fun rd=>∃ v y,Φ v y∧next (⟨rd,some id⟩ :: tr) (putE o.dst v env) (upd mem id (.ext lk y))
     | .dem _ _ _ _=>False
     | .bad=>False)
    (fun env=>next (⟨[],none⟩ :: tr) (putE o.dst (.tup []) env) mem)
  else False
def spOps (p:Prm) (all:List Oper) (ops:List Oper) (tr:List Tr) (K:List Tr→Env→Mem→Prop) (env:Env) (mem:Mem):Prop:=
 @List.rec Oper (fun _=>List Tr→Env→Mem→Prop) K (fun o _ next=>spOp p all K o next) ops tr env mem
theorem ZgA {p:Prm} {all:List Oper} {o:Oper} {rest:List Oper} {tr:List Tr} {K:List Tr→Env→Mem→Prop} {env:Env} {mem:Mem}:spOps p all (o :: rest) tr K env mem=spOp p all K o (fun tr env mem=>spOps p all rest tr K env mem) tr env mem:=rfl
structure Rec where
 v:AV
 wr:Option (Nat×Ob)
 rd:List Nat
 skip:Bool
def Rec.tr (r:Rec):Tr:=⟨r.rd,r.wr.map (·.1)⟩
def StepOf:Plan→AV→Option (Nat×Ob)→Prop
 | .ret v,r,wr=>r=v∧wr=none
 | .put v id ob,r,wr=>r=v∧wr=some (id,ob)
 | .putIf pre v id ob,r,wr=>pre∧r=v∧wr=some (id,ob)
 | .ask Φ,r,wr=>Φ r∧wr=none
 | .askF id ob Φ,r,wr=>r.isNew=false∧Φ r∧wr=some (id,ob)
 | .askN d Φ,r,wr=>(r.isNew=false∧Φ r∧wr=none)∨∃ d' T n xs,d=some d'∧Φ (.new T n xs)∧r= .val (.one (.row d' 0))∧wr=some (d',.row T n 0 xs true)
 | .askT id k Φ,r,wr=>∃ T n xs,Φ T n xs∧r= .val (.one (.row id k))∧wr=some (id,.row T n k xs true)
 | .askS id T n k Φ,r,wr=>∃ ys,r.isNew=false∧Φ r ys∧wr=some (id,.row T n k ys true)
 | .askV id T Φ,r,wr=>∃ ds,r.isNew=false∧Φ r ds∧wr=some (id,.var T (ds.map C.d))
 | .askE id lk Φ,r,wr=>∃ y,Φ r y∧wr=some (id,.ext lk y)
 | .dem _ _ _ _,_,_=>False
 | .bad,_,_=>False
def guardIs (all:List Oper) (o:Oper) (env:Env) (run:Bool):Prop:=
 match o.guard with
 |none=>run=true
 |some g=>(∃ t b,guardTmp all o=some t∧env t= .val (.one (.d (.v (.bool b))))∧run=(b==g.2))∨(∃ t,guardTmp all o=some t∧env t= .tup []∧run=false)
theorem Zh8 {all:List Oper} {o:Oper} {env:Env} {run skip:Env→Prop} (h:guardK all o env run skip):(guardIs all o env true∧run env)∨(guardIs all o env false∧skip env):=by
 unfold guardK at h
 unfold guardIs
 cases hg:o.guard with
 |none=>rw [hg] at h;exact .inl ⟨rfl,h⟩
 |some g=>
  rw [hg] at h
  simp only at h ⊢
  split at h
  ·rename_i t ht
   split at h
   ·rename_i b hb
    have he:upd env t (one (.bool b))=env:=by
     have:=Zaw env t
     rw [hb] at this
     exact this
    obtain⟨g1,g2⟩:=g
    cases b<;>cases g2<;>simp only [cond_true,cond_false,he] at h
    ·exact .inl ⟨.inl ⟨t,false,ht,hb,rfl⟩,h⟩
    ·exact .inr ⟨.inl ⟨t,false,ht,hb,rfl⟩,h⟩
    ·exact .inr ⟨.inl ⟨t,true,ht,hb,rfl⟩,h⟩
    ·exact .inl ⟨.inl ⟨t,true,ht,hb,rfl⟩,h⟩
   ·rename_i l hb
    split at h
    ·exact .inr ⟨.inr ⟨t,ht,hb,trivial⟩,h⟩
    ·exact h.elim
   ·exact h.elim
  ·exact h.elim
inductive Run (p:Prm) (all:List Oper):List Oper→Env→Mem→List Rec→Env→Mem→Prop
 |nil (env mem):Run p all [] env mem [] env mem
 |skip {o rest env mem rs e m}:dstOk p.nt o.dst=true→guardIs all o env false→Run p all rest (putE o.dst (.tup []) env) mem rs e m→Run p all (o :: rest) env mem (⟨.tup [],none, [],true⟩ :: rs) e m
 |step {o rest env mem rs e m} (v:AV) (wr:Option (Nat×Ob)):dstOk p.nt o.dst=true→guardIs all o env true→StepOf (plan p o env mem) v wr→Run p all rest (putE o.dst v env) (putM wr mem) rs e m→
   Run p all (o :: rest) env mem (⟨v,wr,rdOf o env,false⟩ :: rs) e m
theorem ZaN {p : Prm} {all : List Oper} {K : List Tr → Env → Mem → Prop} : ∀ (ops : List Oper) (tr : List Tr) (env : Env) (mem : Mem), spOps p all ops tr K env mem →
    ∃ rs e m, Run p all ops env mem rs e m ∧ K ((rs.map Rec.tr).reverse ++ tr) e m
  | [], tr, env, mem, h => ⟨[], env, mem, .nil _ _, h⟩
  | o :: rest, tr, env, mem, h => by
    rw [ZgA, spOp] at h
    cases hd : dstOk p.nt o.dst with
    | false => rw [hd] at h; exact h.elim
    | true =>
      rw [hd] at h
      simp only [cond_true] at h
      rcases Zh8 h with ⟨hg, h⟩ | ⟨hg, h⟩
      · have go : ∀ v wr, StepOf (plan p o env mem) v wr → spOps p all rest (⟨rdOf o env, wr.map (·.1)⟩ :: tr) K (putE o.dst v env) (putM wr mem) →
            ∃ rs e m, Run p all (o :: rest) env mem rs e m ∧ K ((rs.map Rec.tr).reverse ++ tr) e m := fun v wr hs hsp => by
          obtain ⟨rs, e, m, hr, hk⟩ := ZaN rest _ _ _ hsp
          exact ⟨⟨v, wr, rdOf o env, false⟩ :: rs, e, m, .step v wr hd hg hs hr, by simpa [Rec.tr] using hk⟩
        cases hp : plan p o env mem with
        | ret v => rw [hp] at h; simp only [Zt] at h; exact go v none (by rw [hp]; exact ⟨rfl, rfl⟩) h
        | put v id ob => rw [hp] at h; simp only [Zt] at h; exact go v (some (id, ob)) (by rw [hp]; exact ⟨rfl, rfl⟩) h
        | putIf pre v id ob =>
          rw [hp] at h
          simp only [Zt] at h
          exact go v (some (id, ob)) (by rw [hp]; exact ⟨h.1, rfl, rfl⟩) h.2
        | ask Φ =>
          rw [hp] at h
          simp only [Zt] at h
          obtain ⟨v, hv, h⟩ := h
          exact go v none (by rw [hp]; exact ⟨hv, rfl⟩) h
        | askF id ob Φ =>
          rw [hp] at h
          simp only [Zt] at h
          obtain ⟨v, hv, h⟩ := h
          rcases ZdC h with ⟨T, n, xs, rfl, h⟩ | ⟨hn, h⟩
          · exact h.elim
          · exact go v (some (id, ob)) (by rw [hp]; exact ⟨hn, hv, rfl⟩) h
        | askN d Φ =>
          rw [hp] at h
          simp only [Zt] at h
          obtain ⟨v, hv, h⟩ := h
          rcases ZdC h with ⟨T, n, xs, rfl, h⟩ | ⟨hn, h⟩
          · cases d with
            | none => exact h.elim
            | some d => exact go (.val (.one (.row d 0))) (some (d, .row T n 0 xs true)) (by rw [hp]; exact .inr ⟨d, T, n, xs, rfl, hv, rfl, rfl⟩) h
          · exact go v none (by rw [hp]; exact .inl ⟨hn, hv, rfl⟩) h
        | askT id k Φ =>
          rw [hp] at h
          simp only [Zt] at h
          obtain ⟨T, n, xs, hv, h⟩ := h
          exact go (.val (.one (.row id k))) (some (id, .row T n k xs true)) (by rw [hp]; exact ⟨T, n, xs, hv, rfl, rfl⟩) h
        | askS id T n k Φ =>
          rw [hp] at h
          simp only [Zt] at h
          obtain ⟨v, ys, hv, h⟩ := h
          rcases ZdC h with ⟨T, n, xs, rfl, h⟩ | ⟨hn, h⟩
          · exact h.elim
          · exact go v (some (id, .row T n k ys true)) (by rw [hp]; exact ⟨ys, hn, hv, rfl⟩) h
        | askV id T Φ =>
          rw [hp] at h
          simp only [Zt] at h
          obtain ⟨v, ys, hv, h⟩ := h
          rcases ZdC h with ⟨T, n, xs, rfl, h⟩ | ⟨hn, h⟩
          · exact h.elim
          · exact go v (some (id, .var T (ys.map C.d))) (by rw [hp]; exact ⟨ys, hn, hv, rfl⟩) h
        | askE id lk Φ =>
          rw [hp] at h
          simp only [Zt] at h
          obtain ⟨v, y, hv, h⟩ := h
          exact go v (some (id, .ext lk y)) (by rw [hp]; exact ⟨y, hv, rfl⟩) h
        | dem _ _ _ _ => rw [hp] at h; exact h.elim
        | bad => rw [hp] at h; exact h.elim
      · obtain ⟨rs, e, m, hr, hk⟩ := ZaN rest _ _ _ h
        exact ⟨_, e, m, .skip hd hg hr, by simpa [Rec.tr] using hk⟩
section
variable {p : Prm} {w0 : Base} {I0 : Nat → Prop} {env : Env} {mem : Mem} {bs : Bs} {a : Act} {w : World}
theorem Zgg {nt:Shape} {dst:Option Nat} (h:dstOk nt dst=true):∀ i,dst=some i→i< nt.n∧i ∉ nt.pins:=by
 intro i hi
 subst hi
 simp only [dstOk,Bool.and_eq_true,Bool.not_eq_true'] at h
 exact⟨Nat.lt_of_lt_of_le (Nat.lt_succ_self i) (Nat.le_of_ble_eq_true h.1),fun hm=>by rw [ZaD.2 hm] at h;simp at h⟩
theorem ZM (st:St w0 I0 p.nt env mem bs a w) {dst:Option Nat} (hd:dstOk p.nt dst=true) {x:Value} {v:AV} (h:DenAV w (Stay w0 I0 mem bs w) bs mem x v) (hs:∀ o,o∈v.hs→okh mem o):St w0 I0 p.nt (putE dst v env) mem bs (a.put dst x) w:=by
 cases dst with
 |none=>exact st
 |some i=>exact st.put (Zgg hd i rfl).1 (Zgg hd i rfl).2 h hs
theorem Zc0 {K:Act→World→Prop} {Q:Exit→Act→World→Prop} (hTB:TBok p.P p.TB) (hG:∀ w',Bel w0.K w w'→p.G w') (st:St w0 I0 p.nt env mem bs a w) (o:Oper) {v:AV} {wr:Option (Nat×Ob)} (hd:dstOk p.nt o.dst=true) (hs:StepOf (plan p o env mem) v wr)
  (hK:∀ bs' a' w',St w0 I0 p.nt (putE o.dst v env) (putM wr mem) bs' a' w'→K a' w'):o.wp p.P a w K Q:=by
 have h:=ZgL hTB hG st o
 cases hp:plan p o env mem with
 |ret r=>
  rw [hp] at h hs
  obtain⟨rfl,rfl⟩:=hs
  exact h K Q fun x w' ⟨bs',st',hden,hhs⟩=>hK bs' _ _ (ZM st' hd hden hhs)
 |put r id ob=>
  rw [hp] at h hs
  obtain⟨rfl,rfl⟩:=hs
  exact h K Q fun x w' ⟨bs',st',hden,hhs⟩=>hK bs' _ _ (ZM st' hd hden hhs)
 |putIf pre r id ob=>
  rw [hp] at h hs
  obtain⟨hpre,rfl,rfl⟩:=hs
  exact h hpre K Q fun x w' ⟨bs',st',hden,hhs⟩=>hK bs' _ _ (ZM st' hd hden hhs)
 |ask Φ=>
  rw [hp] at h hs
  obtain⟨hv,rfl⟩:=hs
  exact h v hv K Q fun x w' ⟨bs',st',hden,hhs⟩=>hK bs' _ _ (ZM st' hd hden hhs)
 |askF id ob Φ=>
  rw [hp] at h hs
  obtain⟨hn,hv,rfl⟩:=hs
  exact h v hn hv K Q fun x w' ⟨bs',st',hden,hhs⟩=>hK bs' _ _ (ZM st' hd hden hhs)
 |askN d Φ=>
  rw [hp] at h hs
  rcases hs with ⟨hn,hv,rfl⟩|⟨d',T,n,xs,rfl,hv,rfl,rfl⟩
  ·exact h.1 v hn hv K Q fun x w' ⟨bs',st',hden,hhs⟩=>hK bs' _ _ (ZM st' hd hden hhs)
  ·exact h.2 d' rfl T n xs hv K Q fun x w' ⟨bs',st',hden,hhs⟩=>hK bs' _ _ (ZM st' hd hden hhs)
 |askT id k Φ=>
  rw [hp] at h hs
  obtain⟨T,n,xs,hv,rfl,rfl⟩:=hs
  exact h T n xs hv K Q fun x w' ⟨bs',st',hden,hhs⟩=>hK bs' _ _ (ZM st' hd hden hhs)
 |askS id T n k Φ=>
  rw [hp] at h hs
  obtain⟨ys,hn,hv,rfl⟩:=hs
  exact h v ys hn hv K Q fun x w' ⟨bs',st',hden,hhs⟩=>hK bs' _ _ (ZM st' hd hden hhs)
 |askV id T Φ=>
  rw [hp] at h hs
  obtain⟨ys,hn,hv,rfl⟩:=hs
  exact h v ys hn hv K Q fun x w' ⟨bs',st',hden,hhs⟩=>hK bs' _ _ (ZM st' hd hden hhs)
 |askE id lk Φ=>
  rw [hp] at h hs
  obtain⟨y,hv,rfl⟩:=hs
  exact h v y hv K Q fun x w' ⟨bs',st',hden,hhs⟩=>hK bs' _ _ (ZM st' hd hden hhs)
 |dem _ _ _ _=>rw [hp] at hs;exact hs.elim
 |bad=>rw [hp] at hs;exact hs.elim
theorem ZeA {w:World} {I:Nat→Prop} {bs:Bs} {mem:Mem}:DenAV w I bs mem undef (.tup []):=⟨[],rfl,rfl,fun j s y hs=>by simp at hs⟩
theorem Zaj {all:List Oper} {o:Oper} {run:Bool} (st:St w0 I0 p.nt env mem bs a w) (h:guardIs all o env run):Region.wanted o (yielded all.toArray a.tmps)=run:=by
 unfold guardIs at h
 unfold Region.wanted
 split at h
 ·rename_i hg;rw [hg];exact h.symm
 ·rename_i g hg
  have hdst:∀ t,guardTmp all o=some t→((all.toArray[g.1]?).bind (·.dst))=some t:=by
   intro t ht
   unfold guardTmp at ht
   rw [hg] at ht
   simp only at ht
   rw [List.getElem?_toArray]
   cases hq:all[g.1]? with
   |none=>rw [hq] at ht;simp at ht
   |some q=>rw [hq] at ht;simpa using ht
  rw [hg]
  obtain⟨j,want⟩:=g
  rcases h with ⟨t,b,ht,hb,hr⟩|⟨t,ht,hb,hr⟩
  ·simp only at hr ⊢
   have hy:yielded all.toArray a.tmps j=some b:=by
    unfold yielded
    rw [hdst t ht]
    rcases st.tmp t with h1|⟨h1,h2⟩
    ·rw [hb] at h1;simp at h1
    ·rw [hb] at h2
     have h3:=Zd h2
     have hlt:t< a.tmps.size:=by rw [st.size];exact h1
     simp only [Array.getD,hlt,dif_pos] at h3
     simp only [Option.bind_some,Array.getElem?_eq_getElem hlt]
     have:a.tmps[t]= .bool b:=h3
     rw [this]
   rw [hy,hr]
   cases b<;>cases want<;>rfl
  ·simp only
   have hy:yielded all.toArray a.tmps j=none:=by
    unfold yielded
    rw [hdst t ht]
    rcases st.tmp t with h1|⟨h1,h2⟩
    ·rw [hb] at h1;simp at h1
    ·rw [hb] at h2
     obtain⟨l,h3,h4,_⟩:=h2
     have hl:l= []:=List.eq_nil_of_length_eq_zero h4
     subst hl
     have hlt:t< a.tmps.size:=by rw [st.size];exact h1
     simp only [Array.getD,hlt,dif_pos] at h3
     simp only [Option.bind_some,Array.getElem?_eq_getElem hlt]
     have:a.tmps[t]= .tuple #[]:=h3
     rw [this]
   rw [hy,hr]
   rfl
theorem Zhx {all:List Oper} {Q:Exit→Act→World→Prop} (hTB:TBok p.P p.TB) (hG:∀ w,Bel w0.K w0.w w→p.G w) {ops:List Oper} {rs:List Rec} {e:Env} {m:Mem} (hr:Run p all ops env mem rs e m):
  ∀ {bs:Bs} {a:Act} {w:World},St w0 I0 p.nt env mem bs a w→(∀ bs a w,St w0 I0 p.nt e m bs a w→Q .normal a w)→wpList p.P all.toArray Q ops a w:=by
 induction hr with
 |nil env mem=>intro bs a w st hQ;exact hQ _ _ _ st
 |skip hd hg hr ih=>
  rename_i o rest env mem rs e m
  intro bs a w st hQ
  unfold wpList
  rw [if_neg (by rw [Zaj st hg];simp)]
  exact ih (ZM st hd (x:=undef) ZeA (fun o ho=>by simp [AV.hs] at ho)) hQ
 |step v wr hd hg hs hr ih=>
  rename_i o rest env mem rs e m
  intro bs a w st hQ
  unfold wpList
  rw [if_pos (Zaj st hg)]
  exact .inl (Zc0 hTB (fun w' hb=>hG w' (st.below.trans hb)) st o hd hs fun bs' a' w' st'=>ih st' hQ)
end
def ancOf (acc:List Nat) (o:Oper):Nat:=o.after.toList.foldl (fun s e=>bif Region.binds .any e then s|||2 ^ e.on|||acc.getD e.on 0 else s) 0
def ancs:List Oper→List Nat→List Nat
 | [],acc=>acc
 |o :: r,acc=>ancs r (acc++ [ancOf acc o])
theorem ZeH:∀ (ops:List Oper) (acc:List Nat),(ancs ops acc).length=acc.length+ops.length∧(ancs ops acc).take acc.length=acc∧
  ∀ (j:Nat) (o:Oper),ops[j]? =some o→(ancs ops acc)[acc.length+j]? =some (ancOf ((ancs ops acc).take (acc.length+j)) o)
 | [],acc=>⟨rfl,by simp [ancs],fun j o h=>by simp at h⟩
 |o :: r,acc=>by
  obtain⟨h1,h2,h3⟩:=ZeH r (acc++ [ancOf acc o])
  simp only [List.length_append,List.length_cons,List.length_nil,Nat.zero_add] at h1 h2 h3
  have h4:(ancs (o :: r) acc).take acc.length=acc:=by
   have:=congrArg (List.take acc.length) h2
   rw [List.take_take,Nat.min_eq_left (by omega),List.take_append_of_le_length (Nat.le_refl _),List.take_length] at this
   exact this
  refine⟨by rw [ancs,h1,List.length_cons];omega,h4,fun j q hq=> ?_⟩
  cases j with
  |zero=>
   simp only [List.getElem?_cons_zero,Option.some.injEq] at hq
   subst hq
   rw [Nat.add_zero,h4]
   have:((ancs r (acc++ [ancOf acc o])).take (acc.length+1))[acc.length]? =(acc++ [ancOf acc o])[acc.length]? :=by rw [h2]
   rw [List.getElem?_take_of_lt (by omega)] at this
   rw [ancs,this]
   simp
  |succ j=>
   have:=h3 j q (by simpa using hq)
   have e:acc.length+1+j=acc.length+(j+1):=by omega
   rw [e] at this
   exact this
theorem ZbO (acc:List Nat) (i:Nat):∀ (l:List Edge) (s:Nat),(l.foldl (fun s e=>bif Region.binds .any e then s|||2 ^ e.on|||acc.getD e.on 0 else s) s).testBit i=true→
  s.testBit i=true∨∃ e,e∈l∧Region.binds .any e=true∧(i=e.on∨(acc.getD e.on 0).testBit i=true)
 | [],s,h=> .inl h
 |e :: l,s,h=>by
  rw [List.foldl_cons] at h
  rcases ZbO acc i l _ h with h1|⟨q,h1,h2⟩
  ·cases hb:Region.binds .any e with
   |false=>rw [hb] at h1;exact .inl h1
   |true=>
    rw [hb] at h1
    simp only [cond_true,Nat.testBit_or,Bool.or_eq_true,Nat.testBit_two_pow,decide_eq_true_eq] at h1
    rcases h1 with (h1|h1)|h1
    ·exact .inl h1
    ·exact .inr ⟨e,List.mem_cons_self,hb,.inl h1.symm⟩
    ·exact .inr ⟨e,List.mem_cons_self,hb,.inr h1⟩
  ·exact .inr ⟨q,List.mem_cons_of_mem _ h1,h2⟩
theorem Zg9 {ops:List Oper} {S:Nat→Bool} (hS:∀ (j:Nat) (o:Oper),ops[j]? =some o→S j=true→∀ e,e∈o.after.toList→Region.binds .any e=true→S e.on=true):
  ∀ (j:Nat) (o:Oper),ops[j]? =some o→(∀ e,e∈o.after.toList→Region.binds .any e=true→S e.on=true)→∀ i,((ancs ops []).getD j 0).testBit i=true→S i=true:=by
 intro j
 induction j using Nat.strongRecOn with
 |_ j ih=>
  intro o ho he i hi
  obtain⟨h1,_,h3⟩:=ZeH ops []
  have h4:=h3 j o ho
  simp only [List.length_nil,Nat.zero_add] at h1 h4
  rw [List.getD_eq_getElem?_getD,h4,Option.getD_some] at hi
  unfold ancOf at hi
  rcases ZbO _ i _ 0 hi with h5|⟨e,h5,h6,h7⟩
  ·simp at h5
  ·have hs:=he e h5 h6
   rcases h7 with h7|h7
   ·rw [h7];exact hs
   ·have hlt:e.on< j∧e.on< ops.length:=by
     rw [List.getD_eq_getElem?_getD] at h7
     cases hq:((ancs ops []).take j)[e.on]? with
     |none=>rw [hq] at h7;simp at h7
     |some q=>
      have:=(List.getElem?_eq_some_iff.1 hq).1
      rw [List.length_take,h1] at this
      omega
    rw [List.getD_eq_getElem?_getD,List.getElem?_take_of_lt hlt.1,← List.getD_eq_getElem?_getD] at h7
    exact ih e.on hlt.1 ops[e.on] (List.getElem?_eq_getElem hlt.2) (hS e.on _ (List.getElem?_eq_getElem hlt.2) hs) i h7
def ord (A:List Nat) (i j:Nat):Bool:=bif Nat.blt i j then Nat.testBit (A.getD j 0) i else Nat.testBit (A.getD i 0) j
def dstIn (d:Option Nat) (l:List Nat):Bool:=
 match d with
 |some t=>memb t l
 |none=>false
def dstSame (d e:Option Nat):Bool:=
 match d,e with
 |some t,some u=>Nat.beq t u
 |_,_=>false
def regOk (ops:List Oper):Bool:=
 let A:=ancs ops []
 let n:=ops.length
 (List.range n).all fun j=>match ops[j]? with
  |some o=>(o.after.toList.all fun e=> !Region.binds .any e||Nat.blt e.on j)&&(List.range n).all fun i=>Nat.beq i j||match ops[i]? with
   |some q=> !dstSame q.dst o.dst&&(!(dstIn q.dst (tempsOf o)||dstSame q.dst (guardTmp ops o))||ord A i j)
   |none=>true
  |none=>true
def confl (s t:Tr):Bool:=
 (match s.wr with
  |some x=>memb x t.rd||dstSame (some x) t.wr
  |none=>false)||
 (match t.wr with
  |some x=>memb x s.rd
  |none=>false)
def okTr (ops:List Oper) (tr:List Tr):Bool:=
 let A:=ancs ops []
 let T:=tr.reverse
 (List.range T.length).all fun j=>match T[j]? with
  |some t=>(List.range j).all fun i=>match T[i]? with
   |some s=> !confl s t||Nat.testBit (A.getD j 0) i
   |none=>true
  |none=>true
def codeOk:Code→Bool
 | .region _ ops draw=>match draw with
  |true=>regOk ops.toList
  |false=>true
 | .seq x y=>codeOk x&&codeOk y
 | .cond _ x y=>codeOk x&&codeOk y
 | .block _ x=>codeOk x
 | .loop x=>codeOk x
 |_=>true
structure RegOk (ops:List Oper):Prop where
 edge:∀ (j:Nat) (o:Oper),ops[j]? =some o→∀ e,e∈o.after.toList→Region.binds .any e=true→e.on< j
 dst:∀ (i j:Nat) (q o:Oper) (t:Nat),ops[i]? =some q→ops[j]? =some o→q.dst=some t→o.dst=some t→i=j
 tmp:∀ (i j:Nat) (q o:Oper) (t:Nat),ops[i]? =some q→ops[j]? =some o→i≠j→q.dst=some t→(t∈tempsOf o∨guardTmp ops o=some t)→ord (ancs ops []) i j=true
theorem ZiX {ops:List Oper} (h:regOk ops=true):RegOk ops:=by
 have key:∀ (j:Nat) (o:Oper),ops[j]? =some o→(∀ e,e∈o.after.toList→Region.binds .any e=true→e.on< j)∧
   ∀ (i:Nat) (q:Oper),i≠j→ops[i]? =some q→dstSame q.dst o.dst=false∧((dstIn q.dst (tempsOf o)||dstSame q.dst (guardTmp ops o))=true→ord (ancs ops []) i j=true):=by
  intro j o ho
  have hj:j< ops.length:=(List.getElem?_eq_some_iff.1 ho).1
  have h1:=List.all_eq_true.1 h j (List.mem_range.2 hj)
  simp only [ho,Bool.and_eq_true,List.all_eq_true,Bool.or_eq_true,Bool.not_eq_true'] at h1
  refine⟨fun e he hb=> ?_,fun i q hij hq=> ?_⟩
  ·rcases h1.1 e he with h2|h2
   ·rw [hb] at h2;simp at h2
   ·exact Nat.lt_of_lt_of_le (Nat.lt_succ_self _) (Nat.le_of_ble_eq_true h2)
  ·rcases h1.2 i (List.mem_range.2 (List.getElem?_eq_some_iff.1 hq).1) with h2|h2
   ·exact absurd (Nat.eq_of_beq_eq_true h2) hij
   ·simp only [hq,Bool.and_eq_true,Bool.not_eq_true',Bool.or_eq_true] at h2
    refine⟨h2.1,fun h3=> ?_⟩
    rcases h2.2 with h4|h4
    ·rw [h4] at h3;simp at h3
    ·exact h4
 refine⟨fun j o ho=>(key j o ho).1,fun i j q o t hq ho h1 h2=> ?_,fun i j q o t hq ho hij h1 h2=> ?_⟩
 ·by_cases e:i=j
  ·exact e
  ·have:=((key j o ho).2 i q e hq).1
   rw [h1,h2] at this
   simp [dstSame] at this
 ·refine((key j o ho).2 i q hij hq).2 ?_
  rw [h1,Bool.or_eq_true]
  rcases h2 with h2|h2
  ·exact .inl (ZaD.2 h2)
  ·exact .inr (by rw [h2];simp [dstSame])
def foldE (S:Nat→Bool):List (Oper×Rec)→Env→Env
 | [],env=>env
 |x :: L,env=>foldE (fun k=>S (k+1)) L (bif S 0 then putE x.1.dst x.2.v env else env)
def foldM (S:Nat→Bool):List (Oper×Rec)→Mem→Mem
 | [],mem=>mem
 |x :: L,mem=>foldM (fun k=>S (k+1)) L (bif S 0 then putM x.2.wr mem else mem)
theorem Ze8 {dst:Option Nat} {v:AV} {env:Env} {t:Nat} (h:dst≠some t):putE dst v env t=env t:=by
 cases dst with
 |none=>rfl
 |some d=>exact Zw _ _ (fun e=>h (by rw [e]))
theorem Ze9 {v:AV} {env:Env} {t:Nat}:putE (some t) v env t=v:=Ze _ _ _
theorem Ze6 {wr:Option (Nat×Ob)} {mem:Mem} {t:Nat} (h:∀ ob,wr≠some (t,ob)):putM wr mem t=mem t:=by
 cases wr with
 |none=>rfl
 |some d=>exact Zw _ _ (fun e=>h d.2 (by rw [e]))
theorem Ze7 {ob:Ob} {mem:Mem} {t:Nat}:putM (some (t,ob)) mem t=ob:=Ze _ _ _
theorem Z1 {t:Nat}:∀ (L:List (Oper×Rec)) (S S':Nat→Bool) (env env':Env),env t=env' t→(∀ (i:Nat) (x:Oper×Rec),L[i]? =some x→x.1.dst=some t→S i=S' i)→foldE S L env t=foldE S' L env' t
 | [],S,S',env,env',h,_=>h
 |x :: L,S,S',env,env',h,hs=>by
  refine Z1 L _ _ _ _ ?_ (fun i y hy hd=>hs (i+1) y (by simpa using hy) hd)
  by_cases e:x.1.dst=some t
  ·rw [hs 0 x rfl e]
   cases S' 0 with
   |true=>rw [e];simp only [cond_true,Ze9]
   |false=>exact h
  ·have h1:(bif S 0 then putE x.1.dst x.2.v env else env) t=env t:=by cases S 0 with
    |true=>exact Ze8 e
    |false=>rfl
   have h2:(bif S' 0 then putE x.1.dst x.2.v env' else env') t=env' t:=by cases S' 0 with
    |true=>exact Ze8 e
    |false=>rfl
   rw [h1,h2,h]
theorem Z0 {t:Nat}:∀ (L:List (Oper×Rec)) (S S':Nat→Bool) (mem mem':Mem),mem t=mem' t→(∀ (i:Nat) (x:Oper×Rec) (ob:Ob),L[i]? =some x→x.2.wr=some (t,ob)→S i=S' i)→foldM S L mem t=foldM S' L mem' t
 | [],S,S',mem,mem',h,_=>h
 |x :: L,S,S',mem,mem',h,hs=>by
  refine Z0 L _ _ _ _ ?_ (fun i y ob hy hd=>hs (i+1) y ob (by simpa using hy) hd)
  by_cases e:∃ ob,x.2.wr=some (t,ob)
  ·obtain⟨ob,e⟩:=e
   rw [hs 0 x ob rfl e]
   cases S' 0 with
   |true=>rw [e];simp only [cond_true,Ze7]
   |false=>exact h
  ·have e':∀ ob,x.2.wr≠some (t,ob):=fun ob h=>e ⟨ob,h⟩
   have h1:(bif S 0 then putM x.2.wr mem else mem) t=mem t:=by cases S 0 with
    |true=>exact Ze6 e'
    |false=>rfl
   have h2:(bif S' 0 then putM x.2.wr mem' else mem') t=mem' t:=by cases S' 0 with
    |true=>exact Ze6 e'
    |false=>rfl
   rw [h1,h2,h]
theorem Zdc {t:Nat}:∀ (L:List (Oper×Rec)) (S:Nat→Bool) (env:Env) (j:Nat) (x:Oper×Rec),L[j]? =some x→S j=true→x.1.dst=some t→
  (∀ (i:Nat) (y:Oper×Rec),j< i→L[i]? =some y→y.1.dst=some t→S i=false)→foldE S L env t=x.2.v
 | [],S,env,j,x,hx,_,_,_=>by simp at hx
 |y :: L,S,env,0,x,hx,hj,hd,hl=>by
  simp only [List.getElem?_cons_zero,Option.some.injEq] at hx
  subst hx
  rw [foldE,hj]
  have:=Z1 (t:=t) L (fun k=>S (k+1)) (fun _=>false) (bif true then putE y.1.dst y.2.v env else env) (putE y.1.dst y.2.v env) rfl (fun i z hz hzd=>hl (i+1) z (by omega) (by simpa using hz) hzd)
  rw [this]
  have h0:∀ (L:List (Oper×Rec)) (env:Env),foldE (fun _=>false) L env=env:=by
   intro L
   induction L with
   |nil=>intro env;rfl
   |cons z L ih=>intro env;exact ih env
  rw [h0,hd,Ze9]
 |y :: L,S,env,j+1,x,hx,hj,hd,hl=>by
  rw [foldE]
  exact Zdc L _ _ j x (by simpa using hx) hj hd (fun i z hi hz hzd=>hl (i+1) z (by omega) (by simpa using hz) hzd)
theorem Zdb {t:Nat} {ob:Ob}:∀ (L:List (Oper×Rec)) (S:Nat→Bool) (mem:Mem) (j:Nat) (x:Oper×Rec),L[j]? =some x→S j=true→x.2.wr=some (t,ob)→
  (∀ (i:Nat) (y:Oper×Rec) (ob':Ob),j< i→L[i]? =some y→y.2.wr=some (t,ob')→S i=false)→foldM S L mem t=ob
 | [],S,mem,j,x,hx,_,_,_=>by simp at hx
 |y :: L,S,mem,0,x,hx,hj,hd,hl=>by
  simp only [List.getElem?_cons_zero,Option.some.injEq] at hx
  subst hx
  rw [foldM,hj]
  have:=Z0 (t:=t) L (fun k=>S (k+1)) (fun _=>false) (bif true then putM y.2.wr mem else mem) (putM y.2.wr mem) rfl (fun i z ob' hz hzd=>hl (i+1) z ob' (by omega) (by simpa using hz) hzd)
  rw [this]
  have h0:∀ (L:List (Oper×Rec)) (mem:Mem),foldM (fun _=>false) L mem=mem:=by
   intro L
   induction L with
   |nil=>intro mem;rfl
   |cons z L ih=>intro mem;exact ih mem
  rw [h0,hd,Ze7]
 |y :: L,S,mem,j+1,x,hx,hj,hd,hl=>by
  rw [foldM]
  exact Zdb L _ _ j x (by simpa using hx) hj hd (fun i z ob' hi hz hzd=>hl (i+1) z ob' (by omega) (by simpa using hz) hzd)
def Fact (p:Prm) (all:List Oper) (o:Oper) (r:Rec) (env:Env) (mem:Mem):Prop:=
 dstOk p.nt o.dst=true∧((r.skip=true∧guardIs all o env false∧r.v= .tup []∧r.wr=none)∨(r.skip=false∧guardIs all o env true∧StepOf (plan p o env mem) r.v r.wr∧r.rd=rdOf o env))
theorem Zhy {p:Prm} {all:List Oper} {ops:List Oper} {rs:List Rec} {env e:Env} {mem m:Mem} (h:Run p all ops env mem rs e m):
  rs.length=ops.length∧e=foldE (fun _=>true) (ops.zip rs) env∧m=foldM (fun _=>true) (ops.zip rs) mem∧
  ∀ (i:Nat) (o:Oper) (r:Rec),(ops.zip rs)[i]? =some (o,r)→Fact p all o r (foldE (fun k=>decide (k< i)) (ops.zip rs) env) (foldM (fun k=>decide (k< i)) (ops.zip rs) mem):=by
 have zero:∀ (L:List (Oper×Rec)) (env:Env) (mem:Mem),foldE (fun k=>decide (k< 0)) L env=env∧foldM (fun k=>decide (k< 0)) L mem=mem:=by
  intro L
  induction L with
  |nil=>intro env mem;exact⟨rfl,rfl⟩
  |cons x L ih=>
   intro env mem
   have:=ih env mem
   simpa [foldE,foldM] using this
 induction h with
 |nil env mem=>exact⟨rfl,rfl,rfl,fun i o r hi=>by simp at hi⟩
 |skip hd hg hr ih=>
  rename_i o rest env mem rs e m
  obtain⟨h1,h2,h3,h4⟩:=ih
  refine⟨by simp [h1],h2,h3,fun i q r hi=> ?_⟩
  cases i with
  |zero=>
   simp only [List.zip_cons_cons,List.getElem?_cons_zero,Option.some.injEq,Prod.mk.injEq] at hi
   obtain⟨rfl,rfl⟩:=hi
   rw [(zero _ env mem).1,(zero _ env mem).2]
   exact⟨hd,.inl ⟨rfl,hg,rfl,rfl⟩⟩
  |succ i=>
   have:=h4 i q r (by simpa using hi)
   simpa [foldE,foldM,putM] using this
 |step v wr hd hg hs hr ih=>
  rename_i o rest env mem rs e m
  obtain⟨h1,h2,h3,h4⟩:=ih
  refine⟨by simp [h1],h2,h3,fun i q r hi=> ?_⟩
  cases i with
  |zero=>
   simp only [List.zip_cons_cons,List.getElem?_cons_zero,Option.some.injEq,Prod.mk.injEq] at hi
   obtain⟨rfl,rfl⟩:=hi
   rw [(zero _ env mem).1,(zero _ env mem).2]
   exact⟨hd,.inr ⟨rfl,hg,hs,rfl⟩⟩
  |succ i=>
   have:=h4 i q r (by simpa using hi)
   simpa [foldE,foldM] using this
def cnt (S:Nat→Bool):Nat→Nat
 |0=>0
 |n+1=>cnt S n+(if S n then 0 else 1)
theorem Zip {S:Nat→Bool} {i:Nat} (hi:S i=false):∀ n,(i< n→cnt (fun k=>S k||decide (k=i)) n+1=cnt S n)∧(n≤i→cnt (fun k=>S k||decide (k=i)) n=cnt S n)
 |0=>⟨fun h=>by omega,fun _=>rfl⟩
 |n+1=>by
  obtain⟨h1,h2⟩:=Zip hi n
  refine⟨fun h=> ?_,fun h=> ?_⟩
  ·by_cases e:n=i
   ·subst e
    simp only [cnt,hi,h2 (Nat.le_refl _)]
    simp
   ·have h3:=h1 (by omega)
    simp only [cnt,← h3,e,decide_false,Bool.or_false]
    omega
  ·have e:n≠i:=by omega
   simp only [cnt,h2 (by omega),e,decide_false,Bool.or_false]
theorem Zgl {S:Nat→Bool}:∀ n,cnt S n=0→∀ i,i< n→S i=true
 |0,_,i,hi=>by omega
 |n+1,h,i,hi=>by
  simp only [cnt] at h
  by_cases e:i=n
  ·subst e
   cases hs:S i with
   |true=>rfl
   |false=>rw [hs] at h;simp at h
  ·exact Zgl n (by omega) i (by omega)
theorem ZfS {ops:List Oper} {T:List Tr} (h:okTr ops T.reverse=true) {i j:Nat} {s t:Tr} (hs:T[i]? =some s) (ht:T[j]? =some t) (hij:i< j) (hc:confl s t=true):Nat.testBit ((ancs ops []).getD j 0) i=true:=by
 unfold okTr at h
 simp only [List.reverse_reverse] at h
 have h1:=List.all_eq_true.1 h j (List.mem_range.2 (List.getElem?_eq_some_iff.1 ht).1)
 simp only [ht] at h1
 have h2:=List.all_eq_true.1 h1 i (List.mem_range.2 hij)
 simp only [hs,hc,Bool.not_true,Bool.false_or] at h2
 exact h2
theorem Zj3 {p:Prm} {w0:Base} {I0:Nat→Prop} {Q:Exit→Act→World→Prop} (hTB:TBok p.P p.TB) (hG:∀ w,Bel w0.K w0.w w→p.G w) {ops:List Oper} {rs:List Rec} {env e:Env} {mem m:Mem}
  (hreg:regOk ops=true) (hr:Run p ops ops env mem rs e m) (hok:okTr ops (rs.map Rec.tr).reverse=true) {bs:Bs} {a:Act} {w:World} (st:St w0 I0 p.nt env mem bs a w) (hQ:∀ bs a w,St w0 I0 p.nt e m bs a w→Q .normal a w):
  wpAny p.P .any ops.toArray Q ops.toArray.size (Array.replicate ops.toArray.size false) a w:=by
 have R:=ZiX hreg
 obtain⟨hlen,he,hm,hfact⟩:=Zhy hr
 have hL:∀ j,j< ops.length→∃ o r,ops[j]? =some o∧rs[j]? =some r∧(ops.zip rs)[j]? =some (o,r):=by
  intro j hj
  refine⟨ops[j],rs[j],List.getElem?_eq_getElem hj,List.getElem?_eq_getElem (by omega),?_⟩
  rw [List.getElem?_zip_eq_some]
  exact⟨List.getElem?_eq_getElem hj,List.getElem?_eq_getElem (by omega)⟩
 have hZ:∀ (i:Nat) (x:Oper×Rec),(ops.zip rs)[i]? =some x→ops[i]? =some x.1∧rs[i]? =some x.2:=fun i x hx=>List.getElem?_zip_eq_some.1 hx
 have main:∀ (fuel:Nat) (listed:Array Bool) (bs:Bs) (a:Act) (w:World),listed.size=ops.length→cnt (fun i=>listed.getD i true) ops.length≤fuel→
   (∀ (j:Nat) (o:Oper),ops[j]? =some o→listed.getD j true=true→∀ e,e∈o.after.toList→Region.binds .any e=true→listed.getD e.on true=true)→
   St w0 I0 p.nt (foldE (fun i=>listed.getD i true) (ops.zip rs) env) (foldM (fun i=>listed.getD i true) (ops.zip rs) mem) bs a w→wpAny p.P .any ops.toArray Q fuel listed a w:=by
  intro fuel
  have hdone:∀ (listed:Array Bool) (bs:Bs) (a:Act) (w:World),(∀ i,i< ops.length→listed.getD i true=true)→
    St w0 I0 p.nt (foldE (fun i=>listed.getD i true) (ops.zip rs) env) (foldM (fun i=>listed.getD i true) (ops.zip rs) mem) bs a w→Q .normal a w:=by
   intro listed bs a w hall st
   have hlt:∀ (i:Nat) (x:Oper×Rec),(ops.zip rs)[i]? =some x→listed.getD i true=true:=fun i x hx=>hall i (List.getElem?_eq_some_iff.1 (hZ i x hx).1).1
   have e1:foldE (fun i=>listed.getD i true) (ops.zip rs) env=e:=by
    rw [he];funext t;exact Z1 _ _ _ _ _ rfl (fun i x hx _=>hlt i x hx)
   have e2:foldM (fun i=>listed.getD i true) (ops.zip rs) mem=m:=by
    rw [hm];funext t;exact Z0 _ _ _ _ _ rfl (fun i x _ hx _=>hlt i x hx)
   rw [e1,e2] at st
   exact hQ bs a w st
  have hready:∀ (listed:Array Bool),listed.size=ops.length→∀ i,i∈Region.ready .any ops.toArray listed→∃ o,ops[i]? =some o∧i< ops.length∧listed.getD i true=false∧∀ e,e∈o.after.toList→Region.binds .any e=true→listed.getD e.on true=true:=by
   intro listed hsz i hi
   unfold Region.ready at hi
   obtain⟨h1,h2⟩:=List.mem_filter.1 hi
   have hlt:i< ops.length:=by simpa using h1
   simp only [Bool.and_eq_true,Bool.not_eq_true'] at h2
   refine⟨ops[i],List.getElem?_eq_getElem hlt,hlt,h2.1,fun e he hb=> ?_⟩
   have h3:=h2.2
   rw [List.getElem?_toArray,List.getElem?_eq_getElem hlt] at h3
   simp only [Option.map_some,Option.getD_some] at h3
   rw [← Array.all_toList] at h3
   have h4:=List.all_eq_true.1 h3 e he
   rw [hb] at h4
   simp only [Bool.not_true,Bool.false_or] at h4
   by_cases hon:e.on< listed.size
   ·simp only [Array.getD,hon,dif_pos] at h4 ⊢;exact h4
   ·simp only [Array.getD,hon,dif_neg,not_false_eq_true] at h4 ⊢
  have hprog:∀ (listed:Array Bool),listed.size=ops.length→Region.ready .any ops.toArray listed= []→∀ i,i< ops.length→listed.getD i true=true:=by
   intro listed hsz hnil i
   induction i using Nat.strongRecOn with
   |_ i ih=>
    intro hi
    cases hx:listed.getD i true with
    |true=>rfl
    |false=>
     have:i∈Region.ready .any ops.toArray listed:=by
      unfold Region.ready
      refine List.mem_filter.2 ⟨by simpa using hi,?_⟩
      simp only [Bool.and_eq_true,Bool.not_eq_true']
      refine⟨hx,?_⟩
      rw [List.getElem?_toArray,List.getElem?_eq_getElem hi]
      simp only [Option.map_some,Option.getD_some]
      rw [← Array.all_toList]
      refine List.all_eq_true.2 fun e he=> ?_
      cases hb:Region.binds .any e with
      |false=>rfl
      |true=>
       have hlt:=R.edge i _ (List.getElem?_eq_getElem hi) e he hb
       have h5:=ih e.on hlt (by omega)
       have hon:e.on< listed.size:=by omega
       simp only [Array.getD,hon,dif_pos] at h5 ⊢
       simp only [Bool.not_true,Bool.false_or];exact h5
     rw [hnil] at this;simp at this
  induction fuel with
  |zero=>
   intro listed bs a w hsz hcnt hcl st
   have hall:=Zgl _ (Nat.le_zero.1 hcnt)
   refine⟨?_,hdone listed bs a w hall st⟩
   cases hq:Region.ready .any ops.toArray listed with
   |nil=>rfl
   |cons i l=>
    obtain⟨o,_,hlt,h1,_⟩:=hready listed hsz i (by rw [hq];exact List.mem_cons_self)
    rw [hall i hlt] at h1;simp at h1
  |succ fuel ih=>
   intro listed bs a w hsz hcnt hcl st
   refine⟨fun hnil=>hdone listed bs a w (hprog listed hsz hnil) st,fun j hj=> ?_⟩
   obtain⟨o,ho,hlt,hjf,hedge⟩:=hready listed hsz j hj
   obtain⟨o',r,ho',hrj,hzj⟩:=hL j hlt
   rw [ho] at ho'
   obtain rfl:=Option.some.inj ho'
   obtain⟨hd,hcase⟩:=hfact j o r hzj
   have hclosed:=Zg9 (S:=fun i=>listed.getD i true) hcl
   have hbefore:∀ i,Nat.testBit ((ancs ops []).getD j 0) i=true→listed.getD i true=true:=hclosed j o ho hedge
   have hafter:∀ (i:Nat) (q:Oper),ops[i]? =some q→Nat.testBit ((ancs ops []).getD i 0) j=true→listed.getD i true=false:=by
    intro i q hq hb
    cases hx:listed.getD i true with
    |false=>rfl
    |true=>
     have h9:listed.getD j true=true:=hclosed i q hq (hcl i q hq hx) j hb
     rw [hjf] at h9;simp at h9
   have hE:∀ t,(t∈tempsOf o∨guardTmp ops o=some t)→foldE (fun i=>listed.getD i true) (ops.zip rs) env t=foldE (fun k=>decide (k< j)) (ops.zip rs) env t:=by
    intro t ht
    refine Z1 _ _ _ _ _ rfl (fun i x hx hxd=> ?_)
    obtain⟨hx1,_⟩:=hZ i x hx
    by_cases e:i=j
    ·subst e;rw [hjf];simp
    ·have h1:=R.tmp i j x.1 o t hx1 ho e hxd ht
     unfold ord at h1
     cases hb:Nat.blt i j with
     |true=>
      have hij:i< j:=Nat.lt_of_lt_of_le (Nat.lt_succ_self i) (Nat.le_of_ble_eq_true hb)
      rw [hb] at h1
      rw [hbefore i h1];simp [hij]
     |false=>
      have hij:¬ i< j:=fun h=>by
       have:Nat.blt i j=true:=Nat.ble_eq_true_of_le h
       rw [this] at hb;simp at hb
      rw [hb] at h1
      rw [hafter i x.1 hx1 h1];simp [hij]
   have htr:∀ i (q:Rec),rs[i]? =some q→(rs.map Rec.tr)[i]? =some q.tr:=fun i q hq=>by rw [List.getElem?_map,hq];rfl
   have hM:∀ x,(x∈r.rd∨∃ ob,r.wr=some (x,ob))→∀ (i:Nat) (y:Oper×Rec) (ob:Ob),(ops.zip rs)[i]? =some y→y.2.wr=some (x,ob)→i≠j→(listed.getD i true=true↔i< j):=by
    intro x hx i y ob hy hyw hij
    obtain⟨hy1,hy2⟩:=hZ i y hy
    rcases Nat.lt_or_gt_of_ne hij with h1|h1
    ·have hc:confl y.2.tr r.tr=true:=by
      unfold confl
      simp only [Rec.tr,hyw,Option.map_some,Bool.or_eq_true]
      left
      rcases hx with hx|⟨ob',hx⟩
      ·left;exact ZaD.2 hx
      ·right;rw [hx];simp [dstSame]
     have:=ZfS hok (htr i _ hy2) (htr j _ hrj) h1 hc
     exact⟨fun _=>h1,fun _=>hbefore i this⟩
    ·have hc:confl r.tr y.2.tr=true:=by
      unfold confl
      simp only [Rec.tr,hyw,Option.map_some,Bool.or_eq_true]
      rcases hx with hx|⟨ob',hx⟩
      ·right;exact ZaD.2 hx
      ·left;rw [hx];simp [dstSame]
     have:=ZfS hok (htr j _ hrj) (htr i _ hy2) h1 hc
     have h2:=hafter i y.1 hy1 this
     exact⟨fun h=>by rw [h] at h2;simp at h2,fun h=>by omega⟩
   have hnext:∀ k,(listed.setIfInBounds j true).getD k true=(listed.getD k true||decide (k=j)):=by
    intro k
    by_cases e:k=j
    ·subst e
     have:k< listed.size:=by omega
     simp [Array.getD,this]
    ·simp only [e,decide_false,Bool.or_false,Array.getD,Array.size_setIfInBounds]
     by_cases hk:k< listed.size
     ·simp only [hk,dif_pos]
      exact Array.getElem_setIfInBounds_ne (by simpa using hk) (Ne.symm e)
     ·simp only [hk,dif_neg,not_false_eq_true]
   have hS:(fun k=>(listed.setIfInBounds j true).getD k true)=fun k=>listed.getD k true||decide (k=j):=funext hnext
   have hgo:∀ (a':Act) (w':World) (bs':Bs),St w0 I0 p.nt (putE o.dst r.v (foldE (fun i=>listed.getD i true) (ops.zip rs) env)) (putM r.wr (foldM (fun i=>listed.getD i true) (ops.zip rs) mem)) bs' a' w'→
     wpAny p.P .any ops.toArray Q fuel (listed.setIfInBounds j true) a' w':=by
    intro a' w' bs' st'
    refine ih _ bs' a' w' (by simpa using hsz) ?_ ?_ ?_
    ·rw [hS]
     have:=(Zip (S:=fun k=>listed.getD k true) hjf ops.length).1 hlt
     omega
    ·intro k q hq hk e' he' hb
     rw [hnext] at hk ⊢
     simp only [Bool.or_eq_true,decide_eq_true_eq] at hk ⊢
     rcases hk with hk|rfl
     ·exact .inl (hcl k q hq hk e' he' hb)
     ·rw [ho] at hq
      obtain rfl:=Option.some.inj hq
      exact .inl (hedge e' he' hb)
    ·rw [hS]
     have e1:foldE (fun k=>listed.getD k true||decide (k=j)) (ops.zip rs) env=putE o.dst r.v (foldE (fun i=>listed.getD i true) (ops.zip rs) env):=by
      funext t
      by_cases e:o.dst=some t
      ·rw [e,Ze9]
       refine Zdc _ _ _ j (o,r) hzj (by simp) e (fun i y hi hy hyd=> ?_)
       have:=R.dst i j y.1 o t (hZ i y hy).1 ho hyd e
       omega
      ·rw [Ze8 e]
       refine Z1 _ _ _ _ _ rfl (fun i y hy hyd=> ?_)
       have:i≠j:=fun h=>by
        subst h
        rw [hzj] at hy
        obtain rfl:=Option.some.inj hy
        exact e hyd
       simp [this]
     have e2:foldM (fun k=>listed.getD k true||decide (k=j)) (ops.zip rs) mem=putM r.wr (foldM (fun i=>listed.getD i true) (ops.zip rs) mem):=by
      funext t
      by_cases e:∃ ob,r.wr=some (t,ob)
      ·obtain⟨ob,e⟩:=e
       rw [e,Ze7]
       refine Zdb _ _ _ j (o,r) hzj (by simp) e (fun i y ob' hi hy hyd=> ?_)
       have h1:=hM t (.inr ⟨ob,e⟩) i y ob' hy hyd (by omega)
       have h2:listed.getD i true=false:=by
        cases hx:listed.getD i true with
        |false=>rfl
        |true=>have:=h1.1 hx;omega
       have h3:i≠j:=by omega
       simp [h2,h3]
      ·have e':∀ ob,r.wr≠some (t,ob):=fun ob h=>e ⟨ob,h⟩
       rw [Ze6 e']
       refine Z0 _ _ _ _ _ rfl (fun i y ob hy hyd=> ?_)
       have:i≠j:=fun h=>by
        subst h
        rw [hzj] at hy
        obtain rfl:=Option.some.inj hy
        exact e' ob hyd
       simp [this]
     rw [e1,e2]
     exact st'
   have hguard:∀ b,guardIs ops o (foldE (fun k=>decide (k< j)) (ops.zip rs) env) b→guardIs ops o (foldE (fun i=>listed.getD i true) (ops.zip rs) env) b:=by
    intro b hb
    unfold guardIs at hb ⊢
    split at hb
    ·rename_i hg;exact hb
    ·rename_i g hg
     rcases hb with ⟨t,b',h1,h2,h3⟩|⟨t,h1,h2,h3⟩
     ·exact .inl ⟨t,b',h1,by rw [hE t (.inr h1)];exact h2,h3⟩
     ·exact .inr ⟨t,h1,by rw [hE t (.inr h1)];exact h2,h3⟩
   unfold wpOp
   rw [List.getElem?_toArray,ho]
   simp only
   rcases hcase with ⟨_,hg,hv,hw⟩|⟨_,hg,hs,hrd⟩
   ·rw [if_neg (by rw [Zaj st (hguard _ hg)];simp)]
    refine hgo _ _ bs ?_
    rw [hv,hw]
    exact ZM st hd (x:=undef) ZeA (fun o ho=>by simp [AV.hs] at ho)
   ·rw [if_pos (Zaj st (hguard _ hg))]
    have hplan:plan p o (foldE (fun i=>listed.getD i true) (ops.zip rs) env) (foldM (fun i=>listed.getD i true) (ops.zip rs) mem)=plan p o (foldE (fun k=>decide (k< j)) (ops.zip rs) env) (foldM (fun k=>decide (k< j)) (ops.zip rs) mem):=by
     refine ZgM o (fun t ht=>hE t (.inl ht)) (fun x hx=> ?_)
     have hx':x∈r.rd:=by rw [hrd];exact hx
     refine Z0 _ _ _ _ _ rfl (fun i y ob hy hyd=> ?_)
     by_cases e:i=j
     ·subst e;rw [hjf];simp
     ·have h1:=hM x (.inl hx') i y ob hy hyd e
      cases hb:listed.getD i true with
      |true=>simp [h1.1 hb]
      |false=>
       have:¬ i< j:=fun h=>by rw [h1.2 h] at hb;simp at hb
       simp [this]
    rw [← hplan] at hs
    exact .inl (Zc0 hTB (fun w' hb=>hG w' (st.below.trans hb)) st o hd hs fun bs' a' w' st'=>hgo a' w' bs' st')
 refine main _ _ bs a w (by simp) ?_ ?_ ?_
 ·have:∀ (S:Nat→Bool) n,cnt S n≤n:=by
   intro S n
   induction n with
   |zero=>exact Nat.le_refl _
   |succ n ih=>simp only [cnt];split<;>omega
  simpa using this _ ops.length
 ·intro j o ho hj
  have hlt:j< ops.length:=(List.getElem?_eq_some_iff.1 ho).1
  simp [hlt] at hj
 ·have e1:foldE (fun i=>(Array.replicate ops.toArray.size false).getD i true) (ops.zip rs) env=env:=by
   have h0:∀ (L:List (Oper×Rec)) (env:Env),foldE (fun _=>false) L env=env:=by
    intro L
    induction L with
    |nil=>intro env;rfl
    |cons z L ih=>intro env;exact ih env
   funext t
   rw [Z1 (S':=fun _=>false) (env':=env) _ _ _ rfl (fun i x hx _=>by
    have:=(List.getElem?_eq_some_iff.1 (hZ i x hx).1).1
    simp [this]),h0]
  have e2:foldM (fun i=>(Array.replicate ops.toArray.size false).getD i true) (ops.zip rs) mem=mem:=by
   have h0:∀ (L:List (Oper×Rec)) (mem:Mem),foldM (fun _=>false) L mem=mem:=by
    intro L
    induction L with
    |nil=>intro mem;rfl
    |cons z L ih=>intro mem;exact ih mem
   funext t
   rw [Z0 (S':=fun _=>false) (mem':=mem) _ _ _ rfl (fun i x ob hx _=>by
    have:=(List.getElem?_eq_some_iff.1 (hZ i x hx).1).1
    simp [this]),h0]
  rw [e1,e2]
  exact st
def mtD:D→D→Prop
 | .v (.slice none 0 0),.list []=>True
 |x,y=>y=x
theorem Zj9 {w:World} {I:Nat→Prop} {v:Value} {x y:D} (h:mtD x y) (hd:Den w I v x):Den w I v y:=by
 unfold mtD at h
 split at h
 ·cases hd
  exact Den.nil none 0
 ·subst h;exact hd
def varIs (ob:Ob) (i:Nat) (ds:List D):Prop:=
 match ob with
 | .var _ l=>(l.drop i).take ds.length=ds.map C.d
 |_=>False
theorem Zhh {ob:Ob} {i:Nat} {ds:List D} (h:varIs ob i ds):∃ T l,ob= .var T l∧∀ (j:Nat) (d:D),ds[j]? =some d→l[i+j]? =some (.d d):=by
 unfold varIs at h
 split at h
 ·rename_i T l
  refine⟨T,l,rfl,fun j d hj=> ?_⟩
  have hlt:j< ds.length:=(List.getElem?_eq_some_iff.1 hj).1
  have h1:((l.drop i).take ds.length)[j]? =(ds.map C.d)[j]? :=by rw [h]
  rw [List.getElem?_take_of_lt hlt,List.getElem?_drop,List.getElem?_map,hj] at h1
  exact h1
 ·exact h.elim
def mtC (mem mem':Mem):C→C→Prop
 | .d x,.d y=>mtD x y
 | .d x,.row o k=>x= .v (.slice none 0 0)∧(mem o).live=false∧∃ T n,mem' o= .row T n k [] true
 | .full xs,.full ys=>ys=xs
 | .full xs,.d y=>y= .list xs
 | .row o k,.row o' k'=>o'=o∧k=(mem o).ver∧k'=(mem' o).ver
 | .row o k,.d y=>∃ T n xs,mem o= .row T n k xs false∧y= .list xs
 | .rs o k n i,.rs o' k' n' i'=>o'=o∧n'=n∧i'=i∧k=(mem o).ver∧k'=(mem' o).ver
 | .ptr o i,.ptr o' i'=>o'=o∧i'=i
 | .ref a,.ref b=>b=a
 | .mp o,.mp o'=>o'=o
 | .ptr o i,.ref ds=>(mem' o).mut=false∧varIs (mem o) i ds
 |_,_=>False
def mtCs (mem mem':Mem):List C→List C→Prop
 | [], []=>True
 |c :: cs,d :: ds=>mtC mem mem' c d∧mtCs mem mem' cs ds
 |_,_=>False
def mtS (mem mem':Mem):S→S→Prop
 | .one c,.one d=>mtC mem mem' c d
 | .agg cs,.agg ds=>mtCs mem mem' cs ds
 |_,_=>False
def mtSs (mem mem':Mem):List S→List S→Prop
 | [], []=>True
 |c :: cs,d :: ds=>mtS mem mem' c d∧mtSs mem mem' cs ds
 |_,_=>False
def mtAV (mem mem':Mem):AV→AV→Prop
 |_,.junk=>True
 | .val s,.val t=>mtS mem mem' s t
 | .tup l,.tup m=>mtSs mem mem' l m
 |_,_=>False
def mtO (mem mem':Mem):Ob→Ob→Prop
 |_,.gone=>True
 | .var T cs,.var T' ds=>T'=T∧mtCs mem mem' cs ds
 | .row T n _ xs own,.row T' n' _ ys own'=>T'=T∧n'=n∧ys=xs∧own'=own
 | .gone,.row _ n' _ ys own'=>0< n'∧ys= []∧own'=true
 | .ext lk x,.ext lk' x'=>lk'=lk∧x'=x
 |_,_=>False
def envOf:List (Nat×AV)→Env
 | []=>fun _=> .junk
 |e :: r=>fun t=>bif Nat.beq t e.1 then e.2 else envOf r t
def memOf:List (Nat×Ob)→Mem
 | []=>fun _=> .gone
 |e :: r=>fun t=>bif Nat.beq t e.1 then e.2 else memOf r t
def hsOk (mem:Mem):List (Nat×Nat)→Bool
 | []=>true
 |h :: r=>((mem h.1).live&&Nat.ble h.2 (mem h.1).ver)&&hsOk mem r
def entE (env:Env) (mem mem':Mem):List (Nat×AV)→Prop
 | []=>True
 |e :: r=>mtAV mem mem' (env e.1) e.2∧hsOk mem' e.2.hs=true∧entE env mem mem' r
def entM (mem mem':Mem):List (Nat×Ob)→Prop
 | []=>True
 |e :: r=>mtO mem mem' (mem e.1) e.2∧hsOk mem' e.2.hs=true∧entM mem mem' r
def entail (env:Env) (mem:Mem) (E:List (Nat×AV)) (M:List (Nat×Ob)):Prop:=entE env mem (memOf M) E∧entM mem (memOf M) M
theorem Zh7 {mem:Mem} {l:List (Nat×Nat)} (h:hsOk mem l=true):∀ o,o∈l→okh mem o:=by
 induction l with
 |nil=>intro o ho;simp at ho
 |cons x r ih=>
  intro o ho
  simp only [hsOk,Bool.and_eq_true] at h
  rcases List.mem_cons.1 ho with rfl|ho
  ·exact⟨h.1.1,Nat.le_of_ble_eq_true h.1.2⟩
  ·exact ih h.2 o ho
theorem Zcw (E:List (Nat×AV)) (t:Nat):envOf E t= .junk∨∃ e,e∈E∧e.1=t∧envOf E t=e.2:=by
 induction E with
 |nil=>exact .inl rfl
 |cons e r ih=>
  simp only [envOf]
  cases h:Nat.beq t e.1 with
  |true=>exact .inr ⟨e,List.mem_cons_self,(Nat.eq_of_beq_eq_true h).symm,rfl⟩
  |false=>
   rcases ih with h1|⟨q,h1,h2,h3⟩
   ·exact .inl h1
   ·exact .inr ⟨q,List.mem_cons_of_mem _ h1,h2,h3⟩
theorem Zfh (M:List (Nat×Ob)) (t:Nat):memOf M t= .gone∨∃ e,e∈M∧e.1=t∧memOf M t=e.2:=by
 induction M with
 |nil=>exact .inl rfl
 |cons e r ih=>
  simp only [memOf]
  cases h:Nat.beq t e.1 with
  |true=>exact .inr ⟨e,List.mem_cons_self,(Nat.eq_of_beq_eq_true h).symm,rfl⟩
  |false=>
   rcases ih with h1|⟨q,h1,h2,h3⟩
   ·exact .inl h1
   ·exact .inr ⟨q,List.mem_cons_of_mem _ h1,h2,h3⟩
theorem Zge {env:Env} {mem mem':Mem} {E:List (Nat×AV)} (h:entE env mem mem' E) {e:Nat×AV} (he:e∈E):mtAV mem mem' (env e.1) e.2∧hsOk mem' e.2.hs=true:=by
 induction E with
 |nil=>simp at he
 |cons x r ih=>
  rcases List.mem_cons.1 he with rfl|he
  ·exact⟨h.1,h.2.1⟩
  ·exact ih h.2.2 he
theorem Zjr {mem mem':Mem} {M:List (Nat×Ob)} (h:entM mem mem' M) {e:Nat×Ob} (he:e∈M):mtO mem mem' (mem e.1) e.2∧hsOk mem' e.2.hs=true:=by
 induction M with
 |nil=>simp at he
 |cons x r ih=>
  rcases List.mem_cons.1 he with rfl|he
  ·exact⟨h.1,h.2.1⟩
  ·exact ih h.2.2 he
theorem ZfV {R:Value→C→Prop} {R':Value→C→Prop} {mem mem':Mem}:∀ {cs ds:List C} {l:List Value},mtCs mem mem' cs ds→(∀ y c d,c∈cs→mtC mem mem' c d→R y c→R' y d)→Rel2 R l cs→Rel2 R' l ds
 | [], [],l,_,_,r=>⟨r.1,fun j c y hc=>by simp at hc⟩
 |c :: cs,d :: ds, [],_,_,r=>by have:=r.1;simp at this
 |c :: cs,d :: ds,y :: l,h,hf,r=>by
  obtain⟨r1,r2⟩:=r.of_cons
  exact(ZfV h.2 (fun y c d hc=>hf y c d (List.mem_cons_of_mem _ hc)) r2).cons (hf y c d List.mem_cons_self h.1 r1)
 | [],_ :: _,_,h,_,_=>h.elim
 |_ :: _, [],_,h,_,_=>h.elim
section
variable {p : Prm} {w0 : Base} {I0 : Nat → Prop} {nt : Shape} {env : Env} {mem : Mem} {bs : Bs} {a : Act} {w : World}
theorem ZaS (st:St w0 I0 nt env mem bs a w) {E:List (Nat×AV)} {M:List (Nat×Ob)} (h:entail env mem E M):∃ bs',St w0 I0 nt (envOf E) (memOf M) bs' a w:=by
 obtain⟨hE,hM⟩:=h
 have hob:∀ o,mtO mem (memOf M) (mem o) (memOf M o)∧∀ q,q∈(memOf M o).hs→okh (memOf M) q:=by
  intro o
  rcases Zfh M o with h1|⟨e,he,h2,h3⟩
  ·rw [h1];exact⟨by cases mem o<;>trivial,fun q hq=>by simp [Ob.hs] at hq⟩
  ·obtain⟨g1,g2⟩:=Zjr hM he
   rw [h2] at g1
   rw [h3]
   exact⟨g1,Zh7 g2⟩
 have hmut:∀ o,(memOf M o).mut=true→(mem o).mut=true∨((mem o).live=false∧∃ T n k,memOf M o= .row T n k [] true):=by
  intro o hm
  have h1:=(hob o).1
  cases e1:mem o with
  |gone=>
   rw [e1] at h1
   cases e2:memOf M o with
   |gone=>rw [e2] at hm;simp [Ob.mut] at hm
   |var T cs=>rw [e2] at h1;exact h1.elim
   |ext _ _=>rw [e2] at h1;exact h1.elim
   |row T n k xs own=>
    rw [e2] at h1
    obtain⟨_,g2,g3⟩:=h1
    exact .inr ⟨rfl,T,n,k,by rw [g2,g3]⟩
  |var T cs=>exact .inl rfl
  |ext _ _=>exact .inl rfl
  |row T n k xs own=>
   rw [e1] at h1
   cases e2:memOf M o with
   |gone=>rw [e2] at hm;simp [Ob.mut] at hm
   |var T cs=>rw [e2] at h1;exact h1.elim
   |ext _ _=>rw [e2] at h1;exact h1.elim
   |row T' n' k' xs' own'=>
    rw [e2] at h1 hm
    obtain⟨_,_,_,g4⟩:=h1
    exact .inl (by rw [← g4];exact hm)
 let bs':Bs:=fun o=>bif (mem o).live then bs o else .slice none 0 0
 have hbs:∀ o,(mem o).live=true→bs' o=bs o:=fun o h=>by simp only [bs',h,cond_true]
 have hbs0:∀ o,(mem o).live=false→bs' o= .slice none 0 0:=fun o h=>by simp only [bs',h,cond_false]
 have hlive:∀ o,(mem o).mut=true→(mem o).live=true:=fun o h=>by cases e:mem o<;>rw [e] at h<;>first|rfl|simp [Ob.mut] at h
 have hblk:∀ o b,(memOf M o).mut=true→blk (bs' o)=some b→(mem o).mut=true∧blk (bs o)=some b:=by
  intro o b hm hb
  rcases hmut o hm with h1|⟨h1,_⟩
  ·rw [hbs o (hlive o h1)] at hb;exact⟨h1,hb⟩
  ·rw [hbs0 o h1] at hb;simp [blk] at hb
 have hstay:∀ b,Stay w0 I0 mem bs w b→Stay w0 I0 (memOf M) bs' w b:=by
  intro b hs
  rcases hs with h1|⟨h1,h2,h3⟩
  ·exact .inl h1
  ·exact .inr ⟨h1,h2,fun o hm hb=>by obtain⟨g1,g2⟩:=hblk o b hm hb;exact h3 o g1 g2⟩
 have hden:∀ {x:Value} {d:D},Den w (Stay w0 I0 mem bs w) x d→Den w (Stay w0 I0 (memOf M) bs' w) x d:=fun h=>Den.mono (fun b hb=>⟨hstay b hb,rfl⟩) h
 have hC:∀ (y:Value) (c d:C),(∀ q,q∈c.hs→okh mem q)→mtC mem (memOf M) c d→DenC w (Stay w0 I0 mem bs w) bs mem y c→DenC w (Stay w0 I0 (memOf M) bs' w) bs' (memOf M) y d:=by
  intro y c d hq hm hd
  cases c with
  |d x=>
   cases d with
   |d z=>exact Zj9 hm (hden hd)
   |row o k=>
    obtain⟨h1,h2,T,n,h3⟩:=hm
    subst h1
    have h4:Den w (Stay w0 I0 mem bs w) y (.v (.slice none 0 0)):=hd
    cases h4
    exact⟨rfl,fun _ _ _ _ _=>(hbs0 o h2).symm⟩
   |ptr _ _=>exact hm.elim
   |ref _=>exact hm.elim
   |full _=>exact hm.elim
   |rp _ _ _ _ _=>exact hm.elim
   |rs _ _ _ _=>exact hm.elim
   |mp _=>exact hm.elim
  |full xs=>
   cases d with
   |d z=>obtain rfl:z= .list xs:=hm;exact hden hd.1
   |full z=>obtain rfl:z=xs:=hm;exact⟨hden hd.1,hd.2⟩
   |row _ _=>exact hm.elim
   |ptr _ _=>exact hm.elim
   |ref _=>exact hm.elim
   |rp _ _ _ _ _=>exact hm.elim
   |rs _ _ _ _=>exact hm.elim
   |mp _=>exact hm.elim
  |rp o k n i off=>cases d<;>exact hm.elim
  |rs o k n i=>
   have hl:(mem o).live=true:=(hq (o,k) (by simp [C.hs])).1
   cases d with
   |rs o' k' n' i'=>
    obtain⟨rfl,rfl,rfl,h2,h3⟩:=hm
    refine⟨hd.1,fun T xs own hrow=> ?_⟩
    rw [hbs o' hl]
    have h1:=(hob o').1
    rw [hrow] at h1
    cases e:mem o' with
    |gone=>rw [e] at hl;simp [Ob.live] at hl
    |var T' cs=>rw [e] at h1;exact h1.elim
    |ext _ _=>rw [e] at h1;exact h1.elim
    |row T' m v xs' own'=>
     rw [e] at h1 h2
     simp only [Ob.ver] at h2
     subst h2
     obtain⟨_,rfl,_⟩:=h1
     exact hd.2 _ _ _ e
   |d _=>exact hm.elim
   |row _ _=>exact hm.elim
   |full _=>exact hm.elim
   |ptr _ _=>exact hm.elim
   |ref _=>exact hm.elim
   |rp _ _ _ _ _=>exact hm.elim
   |mp _=>exact hm.elim
  |mp o=>
   have hl:(mem o).live=true:=(hq (o,0) (by simp [C.hs])).1
   cases d with
   |mp o'=>
    obtain rfl:o'=o:=hm
    obtain⟨b,h1,h2⟩:=hd
    exact⟨b,by rw [hbs o' hl];exact h1,h2⟩
   |d _=>exact hm.elim
   |row _ _=>exact hm.elim
   |full _=>exact hm.elim
   |ptr _ _=>exact hm.elim
   |ref _=>exact hm.elim
   |rp _ _ _ _ _=>exact hm.elim
   |rs _ _ _ _=>exact hm.elim
  |row o k=>
   have hl:(mem o).live=true:=(hq (o,k) (by simp [C.hs])).1
   cases d with
   |row o' k'=>
    obtain⟨rfl,h2,h3⟩:=hm
    refine⟨hd.1,fun T n xs own hrow=> ?_⟩
    rw [hbs o' hl]
    have h1:=(hob o').1
    rw [hrow] at h1
    cases e:mem o' with
    |gone=>rw [e] at hl;simp [Ob.live] at hl
    |var T' cs=>rw [e] at h1;exact h1.elim
    |ext _ _=>rw [e] at h1;exact h1.elim
    |row T' n' v xs' own'=>
     rw [e] at h2
     simp only [Ob.ver] at h2
     subst h2
     exact hd.2 _ _ _ _ e
   |d z=>
    obtain⟨T,n,xs,h1,rfl⟩:=hm
    have hx:y=bs o:=hd.2 _ _ _ _ h1
    have:=st.obs o
    rw [h1] at this
    rw [hx]
    exact hden this
   |full _=>exact hm.elim
   |ptr _ _=>exact hm.elim
   |ref _=>exact hm.elim
   |rp _ _ _ _ _=>exact hm.elim
   |rs _ _ _ _=>exact hm.elim
   |mp _=>exact hm.elim
  |ptr o i=>
   have hl:(mem o).live=true:=(hq (o,0) (by simp [C.hs])).1
   cases d with
   |ptr o' i'=>
    obtain⟨rfl,rfl⟩:=hm
    obtain⟨b,h1,h2⟩:=hd
    exact⟨b,by rw [hbs o' hl];exact h1,h2⟩
   |ref ds=>
    obtain⟨hm0,hm1⟩:=hm
    obtain⟨T,cs,e1,e2⟩:=Zhh hm1
    obtain⟨b,h1,h2⟩:=hd
    have h3:=st.obs o
    rw [e1] at h3
    obtain⟨b',l,g1,g2,g3,g4,g5⟩:=h3
    rw [h1] at g1
    obtain rfl:b'=b:=by
     have:=Value.pointer.inj g1
     have:=Option.some.inj this
     exact(congrArg Addr.block this).symm
    refine⟨b',i,.inr ⟨g2,g3.lt,fun o' hm' hb'=> ?_⟩,h2,fun j d hj=> ?_⟩
    ·obtain⟨k1,k2⟩:=hblk o' b' hm' hb'
     obtain rfl:=st.sep o' o b' k1 (by rw [e1];rfl) k2 (by rw [h1];rfl)
     rw [hm0] at hm'
     exact absurd hm' (by decide)
    ·have hc:=e2 j d hj
     have hlt:i+j< l.length:=by rw [g4];exact(List.getElem?_eq_some_iff.1 hc).1
     refine⟨l[i+j],?_,hden (g5 (i+j) _ _ hc (List.getElem?_eq_getElem hlt))⟩
     rw [g3.cell?]
     exact List.getElem?_eq_getElem hlt
   |d _=>exact hm.elim
   |row _ _=>exact hm.elim
   |full _=>exact hm.elim
   |rp _ _ _ _ _=>exact hm.elim
   |rs _ _ _ _=>exact hm.elim
   |mp _=>exact hm.elim
  |ref cs=>
   cases d with
   |ref ds=>
    obtain rfl:ds=cs:=hm
    obtain⟨b,off,h1,h2,h3⟩:=hd
    exact⟨b,off,hstay b h1,h2,fun j d hj=>by obtain⟨z,g1,g2⟩:=h3 j d hj;exact⟨z,g1,hden g2⟩⟩
   |d _=>exact hm.elim
   |row _ _=>exact hm.elim
   |full _=>exact hm.elim
   |ptr _ _=>exact hm.elim
   |rp _ _ _ _ _=>exact hm.elim
   |rs _ _ _ _=>exact hm.elim
   |mp _=>exact hm.elim
 have hCs:∀ (cs ds:List C) (l:List Value),(∀ c q,c∈cs→q∈c.hs→okh mem q)→mtCs mem (memOf M) cs ds→Rel2 (fun y c=>DenC w (Stay w0 I0 mem bs w) bs mem y c) l cs→Rel2 (fun y c=>DenC w (Stay w0 I0 (memOf M) bs' w) bs' (memOf M) y c) l ds:=by
  intro cs ds l hq hm hr
  exact ZfV hm (fun y c d hc=>hC y c d (fun q hqc=>hq c q hc hqc)) hr
 have hS:∀ (y:Value) (s t:S),(∀ q,q∈s.hs→okh mem q)→mtS mem (memOf M) s t→DenS w (Stay w0 I0 mem bs w) bs mem y s→DenS w (Stay w0 I0 (memOf M) bs' w) bs' (memOf M) y t:=by
  intro y s t hq hm hd
  cases s with
  |one c=>cases t with
   |one d=>exact hC y c d hq hm hd
   |agg _=>exact hm.elim
  |agg cs=>cases t with
   |one d=>exact hm.elim
   |agg ds=>
    obtain⟨l,e,hl,hr⟩:=hd
    have:=hCs cs ds l (fun c q hc hqc=>hq q (List.mem_flatMap.2 ⟨c,hc,hqc⟩)) hm ⟨hl,hr⟩
    exact⟨l,e,this.1,this.2⟩
 have hSs:∀ (ss ts:List S) (l:List Value),(∀ c q,c∈ss→q∈c.hs→okh mem q)→mtSs mem (memOf M) ss ts→Rel2 (fun y s=>DenS w (Stay w0 I0 mem bs w) bs mem y s) l ss→Rel2 (fun y s=>DenS w (Stay w0 I0 (memOf M) bs' w) bs' (memOf M) y s) l ts:=by
  intro ss
  induction ss with
  |nil=>
   intro ts l _ hm hr
   cases ts with
   |nil=>exact⟨hr.1,fun j c y hc=>by simp at hc⟩
   |cons _ _=>exact hm.elim
  |cons s ss ih=>
   intro ts l hq hm hr
   cases ts with
   |nil=>exact hm.elim
   |cons t ts=>
    cases l with
    |nil=>have:=hr.1;simp at this
    |cons y l=>
     obtain⟨r1,r2⟩:=hr.of_cons
     exact(ih ts l (fun c q hc=>hq c q (List.mem_cons_of_mem _ hc)) hm.2 r2).cons (hS y s t (fun q hqs=>hq s q List.mem_cons_self hqs) hm.1 r1)
 refine⟨bs',st.below,st.size,st.defers,?_,?_,?_,?_,?_,st.pin,st.marks.mono fun b h=>⟨⟨hstay b h.1,h.2⟩,rfl⟩⟩
 ·intro t
  rcases Zcw E t with h1|⟨e,he,h2,h3⟩
  ·exact .inl h1
  ·obtain⟨g1,g2⟩:=Zge hE he
   rw [h2] at g1
   rw [h3]
   cases hv:e.2 with
   |junk=>exact .inl rfl
   |new _ _ _=>rw [hv] at g1;exact absurd g1 (by cases env t<;>simp [mtAV])
   |val s=>
    rw [hv] at g1
    cases hx:env t with
    |val s'=>
     rw [hx] at g1
     rcases st.tmp t with h4|⟨h4,h5⟩
     ·rw [hx] at h4;simp at h4
     ·rw [hx] at h5
      exact .inr ⟨h4,hS _ s' s (fun q hq=>st.henv t q (by rw [hx];exact hq)) g1 h5⟩
    |tup _=>rw [hx] at g1;exact g1.elim
    |junk=>rw [hx] at g1;exact g1.elim
    |new _ _ _=>rw [hx] at g1;exact g1.elim
   |tup l=>
    rw [hv] at g1
    cases hx:env t with
    |tup l'=>
     rw [hx] at g1
     rcases st.tmp t with h4|⟨h4,h5⟩
     ·rw [hx] at h4;simp at h4
     ·rw [hx] at h5
      obtain⟨vs,e1,hl,hr⟩:=h5
      have:=hSs l' l vs (fun c q hc hqc=>st.henv t q (by rw [hx];exact List.mem_flatMap.2 ⟨c,hc,hqc⟩)) g1 ⟨hl,hr⟩
      exact .inr ⟨h4,vs,e1,this.1,this.2⟩
    |val _=>rw [hx] at g1;exact g1.elim
    |junk=>rw [hx] at g1;exact g1.elim
    |new _ _ _=>rw [hx] at g1;exact g1.elim
 ·intro o
  have h1:=(hob o).1
  cases e2:memOf M o with
  |gone=>trivial
  |var T cs=>
   rw [e2] at h1
   cases e1:mem o with
   |gone=>rw [e1] at h1;exact h1.elim
   |row _ _ _ _ _=>rw [e1] at h1;exact h1.elim
   |ext _ _=>rw [e1] at h1;exact h1.elim
   |var T' cs'=>
    rw [e1] at h1
    obtain⟨rfl,h2⟩:=h1
    have h3:=st.obs o
    rw [e1] at h3
    obtain⟨b,l,g1,g2,g3,g4,g5⟩:=h3
    have:=hCs cs' cs l (fun c q hc hqc=>st.hmem o q (by rw [e1];exact List.mem_flatMap.2 ⟨c,hc,hqc⟩)) h2 ⟨g4,g5⟩
    exact⟨b,l,by rw [hbs o (by rw [e1];rfl)];exact g1,g2,g3,this.1,this.2⟩
  |row T n k xs own=>
   rw [e2] at h1
   cases e1:mem o with
   |gone=>
    rw [e1] at h1
    obtain⟨h2,rfl,rfl⟩:=h1
    rw [hbs0 o (by rw [e1];rfl)]
    exact⟨[],Zap _ w _ _,h2,by simp,fun r hr=>by simp at hr,fun i j r d hi=>by simp at hi⟩
   |var _ _=>rw [e1] at h1;exact h1.elim
   |ext _ _=>rw [e1] at h1;exact h1.elim
   |row T' n' k' xs' own'=>
    rw [e1] at h1
    obtain⟨rfl,rfl,rfl,rfl⟩:=h1
    have h3:=st.obs o
    rw [e1] at h3
    rw [hbs o (by rw [e1];rfl)]
    cases own with
    |true=>
     obtain⟨ys,g1,g2,g3,g4,g5⟩:=h3
     exact⟨ys,g1,g2,g3,g4,fun i j r d hi hj=>by obtain⟨y,f1,f2⟩:=g5 i j r d hi hj;exact⟨y,f1,hden f2⟩⟩
    |false=>exact hden h3
  |ext lk x=>
   rw [e2] at h1
   cases e1:mem o with
   |gone=>rw [e1] at h1;exact h1.elim
   |var _ _=>rw [e1] at h1;exact h1.elim
   |row _ _ _ _ _=>rw [e1] at h1;exact h1.elim
   |ext lk' x'=>
    rw [e1] at h1
    obtain⟨rfl,rfl⟩:=h1
    have h3:=st.obs o
    rw [e1] at h3
    obtain⟨b,bm,g1,g2,g3,g4⟩:=h3
    refine⟨b,bm,by rw [hbs o (by rw [e1];rfl)];exact g1,g2,fun m hm=> ?_,g4⟩
    have hl:(mem m).live=true:=(st.hmem o (m,0) (by rw [e1,hm];simp [Ob.hs])).1
    rw [hbs m hl];exact g3 m hm
 ·intro o o' b hm hm' hb hb'
  obtain⟨g1,g2⟩:=hblk o b hm hb
  obtain⟨f1,f2⟩:=hblk o' b hm' hb'
  exact st.sep o o' b g1 f1 g2 f2
 ·intro t o ho
  rcases Zcw E t with h1|⟨e,he,h2,h3⟩
  ·rw [h1] at ho;simp [AV.hs] at ho
  ·rw [h3] at ho
   exact Zh7 (Zge hE he).2 o ho
 ·intro q o ho
  exact(hob q).2 o ho
end
def spThen (K:Env→Mem→Prop) (Q:Exit→Env→Mem→Prop):Exit→Env→Mem→Prop
 | .normal,env,mem=>K env mem
 |e,env,mem=>Q e env mem
def spBlock (id:Nat) (Q:Exit→Env→Mem→Prop):Exit→Env→Mem→Prop
 | .exit id',env,mem=>bif Nat.beq id' id then Q .normal env mem else Q (.exit id') env mem
 |e,env,mem=>Q e env mem
def spCond (v:AV) (x y:Prop):Prop:=
 match v with
 | .val (.one (.d (.v (.bool b))))=>(b=true→x)∧(b=false→y)
 |_=>False
abbrev Post:=Exit→Env→Mem→Prop
def spLoop (x:Post→Env→Mem→Prop) (Q:Post) (env:Env) (mem:Mem):Prop:=
 ∃ (ι:Type) (E:ι→List (Nat×AV)) (M:ι→List (Nat×Ob)) (R:ι→Prop) (μ:ι→Nat) (i:ι),entail env mem (E i) (M i)∧R i∧
   ∀ i,R i→x (spThen (fun env' mem'=>∃ j,R j∧μ j< μ i∧entail env' mem' (E j) (M j)) Q) (envOf (E i)) (memOf (M i))
def isMk:List Oper→Bool
 | []=>false
 |o :: r=>match o.op with
  | .makeFunc _ _ _=>true
  |_=>isMk r
def isNx:List Oper→Bool
 | []=>false
 |o :: _=>match o.op with
  | .next _ _=>true
  | .entry _=>true
  |_=>false
def planNx (o:Oper) (env:Env) (mem:Mem):Plan:=
 match o.op with
 | .next x s=>planNext env mem x s
 | .entry x=>planEntry env mem x
 |_=> .bad
def spNx (p:Prm) (ops:List Oper) (Q:Post) (env:Env) (mem:Mem):Prop:=
 match ops with
 | []=>False
 |o :: rest=>match o.guard with
  |some _=>False
  |none=>bif dstOk p.nt o.dst then (match planNx o env mem with
   | .dem pre id lk Φ=>pre∧∀ v y,Φ v y→spOps p ops rest [] (fun _ env mem=>Q .normal env mem) (putE o.dst v env) (upd mem id (.ext lk y))
   | .ask Φ=>∃ v,Φ v∧spOps p ops rest [] (fun _ env mem=>Q .normal env mem) (putE o.dst v env) mem
   |_=>False) else False
def spRegion0 (p:Prm) (ops:List Oper) (draw:Bool) (Q:Post) (env:Env) (mem:Mem):Prop:=
 match draw with
 |false=>bif isNx ops then spNx p ops Q env mem else spOps p ops ops [] (fun _ env mem=>Q .normal env mem) env mem
 |true=>spOps p ops ops [] (fun tr env mem=>okTr ops tr=true∧Q .normal env mem) env mem
def spRegion (p:Prm) (ops:List Oper) (draw:Bool) (Q:Post) (env:Env) (mem:Mem):Prop:=
 bif isMk ops then ∃ (E:List (Nat×AV)) (M:List (Nat×Ob)),entail env mem E M∧spRegion0 p ops draw Q (envOf E) (memOf M) else spRegion0 p ops draw Q env mem
def sp (p:Prm) (c:Code) (Q:Post) (env:Env) (mem:Mem):Prop:=
 @Code.rec (fun _=>Post→Env→Mem→Prop)
  (fun Q env mem=>Q .normal env mem)
  (fun _ ops draw Q env mem=>spRegion p ops.toList draw Q env mem)
  (fun _ _ x y Q env mem=>x (spThen (y Q) Q) env mem)
  (fun c _ _ x y Q env mem=>spCond (opd env c) (x Q env mem) (y Q env mem))
  (fun id _ x Q env mem=>x (spBlock id Q) env mem)
  (fun _ x Q env mem=>spLoop x Q env mem)
  (fun _ _ _ _ _ _ _ _ _=>False)
  (fun id Q env mem=>Q (.exit id) env mem)
  (fun _ _ _ _ _=>False)
  (fun _ _ _ _=>False)
  (fun _ _ _ _=>False)
  (fun Q env mem=>Q .ret env mem)
  (fun _ _ _ _=>False) c Q env mem
def Like (p:Prm) (w0:Base) (I0:Nat→Prop) (Q:Exit→Env→Mem→Prop) (e:Exit) (a:Act) (w:World):Prop:=∃ env mem bs,St w0 I0 p.nt env mem bs a w∧Q e env mem
theorem Zi4 {p:Prm} {w0:Base} {I0:Nat→Prop} (hTB:TBok p.P p.TB) (hG:∀ w,Bel w0.K w0.w w→p.G w) {ops:List Oper} {Q:Post} {env:Env} {mem:Mem} {bs:Bs} {a:Act} {w:World} (h:spNx p ops Q env mem)
  (st:St w0 I0 p.nt env mem bs a w):wpList p.P ops.toArray (Like p w0 I0 Q) ops a w:=by
 cases ops with
 |nil=>exact h.elim
 |cons o rest=>
  have h:(match o.guard with
   |some _=>False
   |none=>bif dstOk p.nt o.dst then (match planNx o env mem with
    | .dem pre id lk Φ=>pre∧∀ v y,Φ v y→spOps p (o :: rest) rest [] (fun _ env mem=>Q .normal env mem) (putE o.dst v env) (upd mem id (.ext lk y))
    | .ask Φ=>∃ v,Φ v∧spOps p (o :: rest) rest [] (fun _ env mem=>Q .normal env mem) (putE o.dst v env) mem
    |_=>False) else False):=h
  split at h
  ·exact h.elim
  ·rename_i hg
   cases hd:dstOk p.nt o.dst with
   |false=>rw [hd] at h;exact h.elim
   |true=>
    rw [hd] at h
    simp only [cond_true] at h
    have hs:SoundPlan p.P w0 I0 p.nt env mem a w o (planNx o env mem):=by
     unfold planNx
     split
     ·rename_i x s ho;exact ZgC st (fun _=> .inr rfl) (fun _=> .inr rfl) o x s ho
     ·rename_i x ho;exact ZeR st (fun _=> .inr rfl) (fun _=> .inr rfl) o x ho
     ·trivial
    unfold wpList
    rw [if_pos (by unfold Region.wanted;rw [hg])]
    refine .inl ?_
    have go:∀ {env' mem' bs' a' w'},spOps p (o :: rest) rest [] (fun _ env mem=>Q .normal env mem) env' mem'→St w0 I0 p.nt env' mem' bs' a' w'→wpList p.P (o :: rest).toArray (Like p w0 I0 Q) rest a' w':=by
     intro env' mem' bs' a' w' hsp st'
     obtain⟨rs,e,m,hr,hk⟩:=ZaN _ _ _ _ hsp
     exact Zhx (Q:=Like p w0 I0 Q) hTB hG hr st' (fun bs a w st'=>⟨e,m,bs,st',hk⟩)
    cases hp:planNx o env mem with
    |dem pre id lk Φ=>
     rw [hp] at h hs
     exact hs h.1 _ _ fun x w' ⟨r,y,hΦ,_,bs',st',hden,hhs⟩=>go (h.2 r y hΦ) (ZM st' hd hden hhs)
    |ask Φ=>
     rw [hp] at h hs
     obtain⟨v,hv,h⟩:=h
     exact hs v hv _ _ fun x w' ⟨bs',st',hden,hhs⟩=>go h (ZM st' hd hden hhs)
    |_=>rw [hp] at h;exact h.elim
theorem Zbk {p:Prm} {w0:Base} {I0:Nat→Prop} (hTB:TBok p.P p.TB) (hG:∀ w,Bel w0.K w0.w w→p.G w) (hmix:p.P.follows .mixedOrders=true):∀ (c:Code) (_:codeOk c=true) (Q:Exit→Env→Mem→Prop) (env:Env) (mem:Mem) (bs:Bs) (a:Act) (w:World),
  sp p c Q env mem→St w0 I0 p.nt env mem bs a w→c.wp p.P (Like p w0 I0 Q) a w:=by
 intro c
 induction c with
 |skip=>intro _ Q env mem bs a w h st;exact wp_skip ⟨env,mem,bs,st,h⟩
 |region id ops draw=>
  intro hc Q env mem bs a w h st
  have hx:∃ env mem bs,spRegion0 p ops.toList draw Q env mem∧St w0 I0 p.nt env mem bs a w:=by
   have h:spRegion p ops.toList draw Q env mem:=h
   unfold spRegion at h
   cases hk:isMk ops.toList with
   |false=>rw [hk] at h;exact⟨env,mem,bs,h,st⟩
   |true=>
    rw [hk] at h
    obtain⟨E,M,he,h⟩:=h
    obtain⟨bs',st'⟩:=ZaS st he
    exact⟨_,_,bs',h,st'⟩
  clear h st
  obtain⟨env,mem,bs,h,st⟩:=hx
  cases draw with
  |false=>
   have h:bif isNx ops.toList then spNx p ops.toList Q env mem else spOps p ops.toList ops.toList [] (fun _ env mem=>Q .normal env mem) env mem:=h
   cases hx:isNx ops.toList with
   |false=>
    rw [hx] at h
    obtain⟨rs,e,m,hr,hk⟩:=ZaN _ _ _ _ h
    refine wp_region_list ?_
    have:=Zhx (Q:=Like p w0 I0 Q) hTB hG hr st (fun bs a w st'=>⟨e,m,bs,st',hk⟩)
    simpa using this
   |true=>
    rw [hx] at h
    refine wp_region_list ?_
    have:=Zi4 hTB hG h st
    simpa using this
  |true=>
   obtain⟨rs,e,m,hr,hok,hk⟩:=ZaN _ _ _ _ h
   refine wp_region_any hmix ?_
   exact Zj3 (Q:=Like p w0 I0 Q) hTB hG hc hr (by simpa using hok) st.drew (fun bs a w st'=>⟨e,m,bs,st',hk⟩)
 |seq x y ihx ihy=>
  intro hc Q env mem bs a w h st
  simp only [codeOk,Bool.and_eq_true] at hc
  refine wp_seq (wp_mono (ihx hc.1 _ env mem bs a w h st) ?_)
  rintro e a' w' ⟨env',mem',bs',st',hq⟩
  cases e with
  |normal=>exact ihy hc.2 Q env' mem' bs' a' w' hq st'
  |exit id=>exact⟨env',mem',bs',st',hq⟩
  |goto l=>exact⟨env',mem',bs',st',hq⟩
  |ret=>exact⟨env',mem',bs',st',hq⟩
  |panic ch=>exact⟨env',mem',bs',st',hq⟩
  |outgrown=>exact⟨env',mem',bs',st',hq⟩
 |cond c x y ihx ihy=>
  intro hc Q env mem bs a w h st
  simp only [codeOk,Bool.and_eq_true] at hc
  obtain⟨h1,_⟩:=Zb st (fun _=> .inr rfl) c
  have h:spCond (opd env c) (sp p x Q env mem) (sp p y Q env mem):=h
  unfold spCond at h
  split at h
  ·rename_i b hb
   rw [hb] at h1
   refine wp_cond_split (t:=b) (Zd h1) (fun ht=>ihx hc.1 Q env mem bs a w (h.1 ht) st) (fun ht=>ihy hc.2 Q env mem bs a w (h.2 ht) st)
  ·exact h.elim
 |block id x ih=>
  intro hc Q env mem bs a w h st
  refine wp_block (wp_mono (ih hc _ env mem bs a w h st) ?_)
  rintro e a' w' ⟨env',mem',bs',st',hq⟩
  cases e with
  |exit id'=>
   simp only [spBlock] at hq
   simp only [Exit.inBlock]
   by_cases e:id'=id
   ·subst e
    rw [if_pos rfl]
    simp only [Nat.beq_refl,cond_true] at hq
    exact⟨env',mem',bs',st',hq⟩
   ·rw [if_neg e]
    have:Nat.beq id' id=false:=by
     cases h2:Nat.beq id' id with
     |false=>rfl
     |true=>exact absurd (Nat.eq_of_beq_eq_true h2) e
    simp only [this,cond_false] at hq
    exact⟨env',mem',bs',st',hq⟩
  |normal=>exact⟨env',mem',bs',st',hq⟩
  |goto l=>exact⟨env',mem',bs',st',hq⟩
  |ret=>exact⟨env',mem',bs',st',hq⟩
  |panic ch=>exact⟨env',mem',bs',st',hq⟩
  |outgrown=>exact⟨env',mem',bs',st',hq⟩
 |loop x ih=>
  intro hc Q env mem bs a w h st
  obtain⟨ι,E,M,R,μ,i,hent,hR,hround⟩:=h
  obtain⟨bs',st'⟩:=ZaS st hent
  refine wp_loop_ghost (fun n a w=>∃ i,μ i=n∧R i∧∃ bs,St w0 I0 p.nt (envOf (E i)) (memOf (M i)) bs a w) (μ i) ⟨i,rfl,hR,bs',st'⟩ ?_
  rintro n a w ⟨i,rfl,hR,bs,st⟩
  refine wp_mono (ih hc _ _ _ bs a w (hround i hR) st) ?_
  rintro e a' w' ⟨env',mem',bs',st',hq⟩
  cases e with
  |normal=>
   obtain⟨j,h1,h2,h3⟩:=hq
   obtain⟨bs'',st''⟩:=ZaS st' h3
   exact⟨μ j,h2,j,rfl,h1,bs'',st''⟩
  |exit id=>exact⟨env',mem',bs',st',hq⟩
  |goto l=>exact⟨env',mem',bs',st',hq⟩
  |ret=>exact⟨env',mem',bs',st',hq⟩
  |panic ch=>exact⟨env',mem',bs',st',hq⟩
  |outgrown=>exact⟨env',mem',bs',st',hq⟩
 |exit id=>intro _ Q env mem bs a w h st;exact wp_exit ⟨env,mem,bs,st,h⟩
 |ret=>intro _ Q env mem bs a w h st;exact wp_ret ⟨env,mem,bs,st,h⟩
 |rangeFunc f ps as x _ _=>intro _ Q env mem bs a w h;exact h.elim
 |scope x _=>intro _ Q env mem bs a w h;exact h.elim
 |label l=>intro _ Q env mem bs a w h;exact h.elim
 |goto l=>intro _ Q env mem bs a w h;exact h.elim
 |refuse s=>intro _ Q env mem bs a w h;exact h.elim
def resK (p:Prm) (env:Env) (mem:Mem):List ResultVar→(List S→Prop)→Prop
 | [],k=>k []
 | .tmp t :: r,k=>argAV mem (env t) (fun v=>match v with
  | .val s=>resK p env mem r (fun l=>k (s :: l))
  |_=>False) False
 | .cell t T :: r,k=>match look p.TB T with
  |some ty=>match env t with
   | .val (.one (.ptr b off))=>match mem b with
    | .var _ cs=>argCs mem ((cs.drop off).take ty.size) (fun l=>bif Nat.beq l.length ty.size then (match ty.agg with
     |true=>resK p env mem r (fun m=>k (.agg l :: m))
     |false=>match l with
      | [c]=>resK p env mem r (fun m=>k (.one c :: m))
      |_=>False) else False) False
    |_=>False
   |_=>False
  |none=>False
def tupOf:List S→AV
 | [s]=> .val s
 |l=> .tup l
def RetIs (p:Prm) (rs:List ResultVar) (r:AV):Exit→Env→Mem→Prop
 | .normal,env,mem=>resK p env (frzR env rs mem) rs fun l=>r=tupOf l
 | .ret,env,mem=>resK p env (frzR env rs mem) rs fun l=>r=tupOf l
 |_,_,_=>False
def resF (a:Act):ResultVar→Sem Value
 | .tmp t=>pure (a.tmps.getD t undef)
 | .cell x t=>do loadVar t (← asAddr (a.tmps.getD x undef))
theorem Zbn {p:Prm} {w0:Base} {I0:Nat→Prop} {env:Env} {mem:Mem} {bs:Bs} {a:Act} {w:World} (hTB:TBok p.P p.TB) (st:St w0 I0 p.nt env mem bs a w):∀ (rs:List ResultVar) (k:List S→Prop),resK p env mem rs k→
  ∃ l vs,k l∧(∀ s,s∈l→s.hs= [])∧(rs.mapM (resF a)).run p.P w= .ok vs w∧Rel2 (fun y s=>DenS w (Stay w0 I0 mem bs w) noBs noMem y s) vs l
 | [],k,h=>⟨[], [],h,fun s hs=>by simp at hs,by simp,Rel2.nil⟩
 | .tmp t :: r,k,h=>by
  simp only [resK] at h
  rcases ZcJ st (fun _=> .inr rfl) (env t) (fun v=>match v with
   | .val s=>resK p env mem r (fun l=>k (s :: l))
   |_=>False) False with ⟨v,e,h1,h2⟩|e
  ·rw [e] at h
   split at h
   ·rename_i s
    obtain⟨l,vs,g1,g2,g3,g4⟩:=Zbn hTB st r _ h
    have hden:DenAV w (Stay w0 I0 mem bs w) noBs noMem (a.tmps.getD t undef) (.val s):=by
     rcases st.tmp t with h3|⟨_,h3⟩
     ·rw [h3] at e
      simp only [argAV] at e
      rw [← e] at h;exact h.elim
     ·exact h2 _ _ _ h3
    refine⟨s :: l,a.tmps.getD t undef :: vs,g1,fun q hq=> ?_,?_,g4.cons hden⟩
    ·rcases List.mem_cons.1 hq with rfl|hq
     ·exact h1
     ·exact g2 q hq
    ·rw [List.mapM_cons]
     simp only [resF,Sem.run_bind,Sem.run_pure,Result.andThen_ok,g3]
   ·exact h.elim
  ·rw [e] at h;exact h.elim
 | .cell t T :: r,k,h=>by
  simp only [resK] at h
  split at h
  ·rename_i ty hty
   obtain⟨i,u,z,hi⟩:=Zh (hTB T ty (Zf hty))
   split at h
   ·rename_i b off hx
    split at h
    ·rename_i T0 cs hb
     rcases st.tmp t with h3|⟨hlt,h3⟩
     ·rw [hx] at h3;simp at h3
     rw [hx] at h3
     obtain⟨blk,e1,e2⟩:=h3
     have hob:=st.obs b
     rw [hb] at hob
     obtain⟨blk',l,e3,_,hrow,hl,hrel⟩:=hob
     rw [e1] at e3
     simp only [Value.pointer.injEq,Option.some.injEq,Addr.mk.injEq,and_true] at e3
     subst e3
     have hR:Rel2 (fun y c=>DenC w (Stay w0 I0 mem bs w) bs mem y c) ((l.drop off).take ty.size) ((cs.drop off).take ty.size):=(Rel2.drop ⟨hl,hrel⟩ off).take ty.size
     rcases Zbg st (fun _=> .inr rfl) ((cs.drop off).take ty.size) (fun l=>bif Nat.beq l.length ty.size then (match ty.agg with
      |true=>resK p env mem r (fun m=>k (.agg l :: m))
      |false=>match l with
       | [c]=>resK p env mem r (fun m=>k (.one c :: m))
       |_=>False) else False) False with ⟨cl,e,h1,h2⟩|e
     ·rw [e] at h
      cases hlen:Nat.beq cl.length ty.size with
      |false=>rw [hlen] at h;exact h.elim
      |true=>
       rw [hlen] at h
       simp only [cond_true] at h
       have hlen':=Nat.eq_of_beq_eq_true hlen
       have hR':=h2 _ noBs noMem hR
       obtain⟨v,hv,hagg⟩:=Zc2 (P:=p.P) (w:=w) hi blk off ((l.drop off).take ty.size) (hR'.1.trans hlen') (fun j y hj=>by
        rw [hrow.cell?]
        rw [List.getElem?_take] at hj
        split at hj
        ·simpa using hj
        ·simp at hj)
       have hv':(loadVar T ⟨blk,off,none⟩).run p.P w= .ok v w:=by simpa [Instr.loadAt,Instr.sureAddr] using hv
       have fin:∀ s:S,s.hs= []→DenS w (Stay w0 I0 mem bs w) noBs noMem v s→resK p env mem r (fun m=>k (s :: m))→∃ l vs,k l∧(∀ s,s∈l→s.hs= [])∧((ResultVar.cell t T :: r).mapM (resF a)).run p.P w= .ok vs w∧Rel2 (fun y s=>DenS w (Stay w0 I0 mem bs w) noBs noMem y s) vs l:=by
        intro s hs hd hres
        obtain⟨l,vs,g1,g2,g3,g4⟩:=Zbn hTB st r _ hres
        refine⟨s :: l,v :: vs,g1,fun q hq=> ?_,?_,g4.cons hd⟩
        ·rcases List.mem_cons.1 hq with rfl|hq
         ·exact hs
         ·exact g2 q hq
        ·rw [List.mapM_cons]
         simp only [resF,e2,asAddr,Sem.run_bind,Sem.run_pure,Result.andThen_ok,hv',g3]
       split at h
       ·rename_i ha
        rw [ha] at hagg
        simp only [if_true] at hagg
        exact fin (.agg cl) (List.flatMap_eq_nil_iff.2 fun c hc=>h1 c hc) ⟨_,hagg,hR'.1,hR'.2⟩ h
       ·rename_i ha
        rw [ha] at hagg
        simp only [Bool.false_eq_true,if_false] at hagg
        split at h
        ·rename_i c
         rw [hagg] at hR'
         exact fin (.one c) (h1 c (by simp)) (hR'.of_cons.1) h
        ·exact h.elim
     ·rw [e] at h;exact h.elim
    ·exact h.elim
   ·exact h.elim
  ·exact h.elim
theorem Zab {P:Program} {fn:Func} {rs:List ResultVar} {a:Act} {w:World} {vs:List Value} (hrs:fn.results=⟨rs⟩) (h3:(rs.mapM (resF a)).run P w= .ok vs w):
  (results fn a.tmps).run P w= .ok (if h:vs.length=1 then vs[0] else .tuple vs.toArray) w:=by
 have h6:results fn a.tmps=(do let vs ← Array.mapM (resF a) ⟨rs⟩;pure (if h:vs.size=1 then vs[0] else .tuple vs)):=by
  unfold results
  rw [hrs]
  congr 1
 have h4:(Array.mapM (resF a) (⟨rs⟩:Array ResultVar)).run P w= .ok vs.toArray w:=by
  rw [Array.mapM_eq_mapM_toList]
  show ((rs.mapM (resF a)).bind (fun l=>Sem.pure l.toArray)).run P w=_
  have h5:∀ (x:Sem (List Value)) (f:List Value→Sem (Array Value)),(x.bind f).run P w=(x >>=f).run P w:=fun _ _=>rfl
  rw [h5,Sem.run_bind,h3]
  rfl
 rw [h6,Sem.run_bind,h4]
 simp only [Result.andThen_ok]
 by_cases hl1:vs.length=1
 ·simp [hl1]
 ·simp [hl1]
def envArgs:Nat→List AV→Env
 |_, []=>fun _=> .junk
 |i,v :: r=>fun t=>bif Nat.beq t i then v else envArgs (i+1) r t
theorem Zy:∀ (vs:List AV) (i t:Nat),envArgs i vs t= .junk∨(i≤t∧∃ v,vs[t - i]? =some v∧envArgs i vs t=v)
 | [],i,t=> .inl rfl
 |v :: r,i,t=>by
  simp only [envArgs]
  cases h:Nat.beq t i with
  |true=>
   obtain rfl:=Nat.eq_of_beq_eq_true h
   exact .inr ⟨Nat.le_refl _,v,by simp,rfl⟩
  |false=>
   rcases Zy r (i+1) t with h1|⟨h1,v',h2,h3⟩
   ·exact .inl h1
   ·refine .inr ⟨by omega,v',?_,h3⟩
    have:t - i=(t - (i+1))+1:=by omega
    rw [this];simpa using h2
def freeAVs:List AV→Bool
 | []=>true
 |v :: r=>(match v.hs with
  | []=>freeAVs r
  |_=>false)
theorem Z9 {l:List AV} (h:freeAVs l=true):∀ v,v∈l→v.hs= []:=by
 induction l with
 |nil=>intro v hv;simp at hv
 |cons x r ih=>
  intro v hv
  simp only [freeAVs] at h
  split at h
  ·rename_i hx
   rcases List.mem_cons.1 hv with rfl|hv
   ·exact hx
   ·exact ih h v hv
  ·simp at h
theorem Zdq {p : Prm} {f : FuncId} {fn : Func} {c : Code} (hf : p.P.funcs[f]? = some fn) (hb : fn.body = some c) (hn : (fn.name == "runtime.NumGoroutine") = false) (hnt : fn.ntmps = p.nt.n) (hpn : p.nt.pins = []) (hmk : p.nt.marks = false) {rs : List ResultVar} (hrs : fn.results = ⟨rs⟩)
  (hTB:TBok p.P p.TB) (hG:∀ w w',p.G w→Below w.heap.size w w'→p.G w') (hmix:p.P.follows .mixedOrders=true) (hc:codeOk c=true) {args:List AV} {r:AV} (hargs:freeAVs args=true) (hlen:Nat.ble args.length p.nt.n=true)
  (h:sp p c (RetIs p rs r) (envArgs 0 args) noMem):Spec p.P p.G f args r:=by
 refine⟨Zz hf hb hn,fun w I vs hw hI hrel=> ?_⟩
 refine calls_of_wp hf hb ?_
 have hlen':=Nat.le_of_ble_eq_true hlen
 have hvl:vs.length=args.length:=hrel.1
 have hIs:∀ b,I b→Stay (Base.all w) I noMem noBs w b:=fun b hb=> .inl ⟨hb,hI b hb⟩
 have st:St (Base.all w) I p.nt (envArgs 0 args) noMem noBs { tmps:=vs.toArray++Array.replicate (fn.ntmps - vs.toArray.size) undef,defers:= [] } w:=by
  refine⟨Bel.refl _ _,by simp [hnt];omega,fun _=>rfl,?_,fun o=>trivial,fun o o' b hm=>by simp [noMem,Ob.mut] at hm,?_,fun q o ho=>by simp [noMem,Ob.hs] at ho,fun t ht=>by rw [hpn] at ht;simp at ht,Marks.nil _ _⟩
  ·intro t
   rcases Zy args 0 t with h1|⟨_,v,h2,h3⟩
   ·exact .inl h1
   ·simp only [Nat.sub_zero] at h2
    have hlt:t< args.length:=(List.getElem?_eq_some_iff.1 h2).1
    refine .inr ⟨by omega,?_⟩
    rw [h3]
    obtain⟨y,hy,hd⟩:=hrel.get h2
    have e:(vs.toArray++Array.replicate (fn.ntmps - vs.toArray.size) undef).getD t undef=y:=by
     rw [Array.getD_eq_getD_getElem?,Array.getElem?_append_left (by simp;omega)]
     simp [hy]
    rw [e]
    have K:Keeps w I noBs noMem w (Stay (Base.all w) I noMem noBs w) noBs noMem (fun _=>False):=⟨fun b hb=>⟨hIs b hb,rfl⟩,fun _ _ h=>h.elim,fun _ _ _ _ _ _ h=>h.elim⟩
    exact K.av (fun o ho=>by rw [Z9 hargs v (List.mem_of_getElem? h2)] at ho;simp at ho) hd
  ·intro t o ho
   rcases Zy args 0 t with h1|⟨_,v,h2,h3⟩
   ·rw [h1] at ho;simp [AV.hs] at ho
   ·simp only [Nat.sub_zero] at h2
    rw [h3,Z9 hargs v (List.mem_of_getElem? h2)] at ho;simp at ho
 refine wp_mono (Zbk (w0:=Base.all w) (I0:=I) hTB (fun w' hb=>hG w w' hw hb.to_below) hmix c hc _ _ _ _ _ _ h st) ?_
 rintro e a' w' ⟨env',mem',bs',st',hq⟩
 have fin:resK p env' (frzR env' rs mem') rs (fun l=>r=tupOf l)→a'.defers= []∧∃ v,(results fn a'.tmps).run p.P w'= .ok v w'∧∃ x,Ending.returned v= .returned x∧DenAV w' (fun b=>I b∨(w.heap.size≤b∧b< w'.heap.size)) noBs noMem x r∧Below w.heap.size w w':=by
  intro hres
  have st1:=St.frzR rs st'
  generalize frzR env' rs mem'=mem1 at hres st1
  obtain⟨l,vs',h1,h2,h3,h4⟩:=Zbn hTB st1 rs _ hres
  have hst:∀ b,Stay (Base.all w) I mem1 bs' w' b→(I b∨(w.heap.size≤b∧b< w'.heap.size))∧w'.heap[b]? =w'.heap[b]? :=by
   intro b hb
   rcases hb with ⟨g1,_⟩|⟨g1,g2,_⟩
   ·exact⟨.inl g1,rfl⟩
   ·exact⟨.inr ⟨Nat.le_of_not_lt g1,g2⟩,rfl⟩
  have K:Keeps w' (Stay (Base.all w) I mem1 bs' w') noBs noMem w' (fun b=>I b∨(w.heap.size≤b∧b< w'.heap.size)) noBs noMem (fun _=>False):=⟨hst,fun _ _ h=>h.elim,fun _ _ _ _ _ _ h=>h.elim⟩
  have hrel:Rel2 (fun y s=>DenS w' (fun b=>I b∨(w.heap.size≤b∧b< w'.heap.size)) noBs noMem y s) vs' l:=h4.mono fun y s hs hd=>K.s (fun o ho=>by rw [h2 s hs] at ho;simp at ho) hd
  refine⟨st1.defers hmk,(if h:vs'.length=1 then vs'[0] else .tuple vs'.toArray),?_,_,rfl,?_,st1.below.to_below⟩
  ·exact Zab hrs h3
  ·rw [h1]
   match l,vs',hrel with
   | [s], [v],hrel=>exact hrel.of_cons.1
   | [], [],hrel=>exact⟨[],rfl,rfl,fun j s y hs=>by simp at hs⟩
   |s :: s' :: l,v :: v' :: vs,hrel=>
    rw [dif_neg (by simp)]
    exact⟨v :: v' :: vs,rfl,hrel.1,hrel.2⟩
   | [],_ :: _,hrel=>have:=hrel.1;simp at this
   | [_], [],hrel=>have:=hrel.1;simp at this
   | [_],_ :: _ :: _,hrel=>have:=hrel.1;simp at this
   |_ :: _ :: _, [],hrel=>have:=hrel.1;simp at this
   |_ :: _ :: _, [_],hrel=>have:=hrel.1;simp at this
 cases e with
 |normal=>exact fin hq
 |ret=>exact fin hq
 |exit id=>exact hq.elim
 |goto l=>exact hq.elim
 |panic ch=>exact hq.elim
 |outgrown=>exact hq.elim
def rowRes (env:Env) (mem:Mem) (rs:List ResultVar) (T n:Nat) (xs:List (List D)):Prop:=
 match rs with
 | [.tmp t]=>match env t with
  | .val (.one (.row o k))=>mem o= .row T n k xs true
  | .val (.one (.d (.v (.slice none 0 0))))=>xs= []∧0< n
  |_=>False
 |_=>False
def RetNew (rs:List ResultVar) (T n:Nat) (xs:List (List D)):Exit→Env→Mem→Prop
 | .normal,env,mem=>rowRes env mem rs T n xs
 | .ret,env,mem=>rowRes env mem rs T n xs
 |_,_,_=>False
def nilRes (env:Env) (rs:List ResultVar):Prop:=
 match rs with
 | [.tmp t]=>match env t with
  | .val (.one (.d (.v (.slice none 0 0))))=>True
  |_=>False
 |_=>False
def RetNil (rs:List ResultVar):Exit→Env→Mem→Prop
 | .normal,env,_=>nilRes env rs
 | .ret,env,_=>nilRes env rs
 |_,_,_=>False
theorem ZiN {p : Prm} {f : FuncId} {fn : Func} {c : Code} (hf : p.P.funcs[f]? = some fn) (hb : fn.body = some c) (hn : (fn.name == "runtime.NumGoroutine") = false) (hnt : fn.ntmps = p.nt.n) (hpn : p.nt.pins = []) (hmk : p.nt.marks = false) {rs : List ResultVar} (hrs : fn.results = ⟨rs⟩)
  (hTB:TBok p.P p.TB) (hG:∀ w w',p.G w→Below w.heap.size w w'→p.G w') (hmix:p.P.follows .mixedOrders=true) (hc:codeOk c=true) {args:List AV} (hargs:freeAVs args=true) (hlen:Nat.ble args.length p.nt.n=true)
  (h:sp p c (RetNil rs) (envArgs 0 args) noMem):Spec p.P p.G f args (.val (.one (.d (.v (.slice none 0 0))))):=by
 refine⟨Zz hf hb hn,fun w I vs hw hI hrel=> ?_⟩
 refine calls_of_wp hf hb ?_
 have hlen':=Nat.le_of_ble_eq_true hlen
 have hvl:vs.length=args.length:=hrel.1
 have hIs:∀ b,I b→Stay (Base.all w) I noMem noBs w b:=fun b hb=> .inl ⟨hb,hI b hb⟩
 have st:St (Base.all w) I p.nt (envArgs 0 args) noMem noBs { tmps:=vs.toArray++Array.replicate (fn.ntmps - vs.toArray.size) undef,defers:= [] } w:=by
  refine⟨Bel.refl _ _,by simp [hnt];omega,fun _=>rfl,?_,fun o=>trivial,fun o o' b hm=>by simp [noMem,Ob.mut] at hm,?_,fun q o ho=>by simp [noMem,Ob.hs] at ho,fun t ht=>by rw [hpn] at ht;simp at ht,Marks.nil _ _⟩
  ·intro t
   rcases Zy args 0 t with h1|⟨_,v,h2,h3⟩
   ·exact .inl h1
   ·simp only [Nat.sub_zero] at h2
    have hlt:t< args.length:=(List.getElem?_eq_some_iff.1 h2).1
    refine .inr ⟨by omega,?_⟩
    rw [h3]
    obtain⟨y,hy,hd⟩:=hrel.get h2
    have e:(vs.toArray++Array.replicate (fn.ntmps - vs.toArray.size) undef).getD t undef=y:=by
     rw [Array.getD_eq_getD_getElem?,Array.getElem?_append_left (by simp;omega)]
     simp [hy]
    rw [e]
    have K:Keeps w I noBs noMem w (Stay (Base.all w) I noMem noBs w) noBs noMem (fun _=>False):=⟨fun b hb=>⟨hIs b hb,rfl⟩,fun _ _ h=>h.elim,fun _ _ _ _ _ _ h=>h.elim⟩
    exact K.av (fun o ho=>by rw [Z9 hargs v (List.mem_of_getElem? h2)] at ho;simp at ho) hd
  ·intro t o ho
   rcases Zy args 0 t with h1|⟨_,v,h2,h3⟩
   ·rw [h1] at ho;simp [AV.hs] at ho
   ·simp only [Nat.sub_zero] at h2
    rw [h3,Z9 hargs v (List.mem_of_getElem? h2)] at ho;simp at ho
 refine wp_mono (Zbk (w0:=Base.all w) (I0:=I) hTB (fun w' hb=>hG w w' hw hb.to_below) hmix c hc _ _ _ _ _ _ h st) ?_
 rintro e a' w' ⟨env',mem',bs',st',hq⟩
 have fin:nilRes env' rs→a'.defers= []∧∃ v,(results fn a'.tmps).run p.P w'= .ok v w'∧∃ x,Ending.returned v= .returned x∧DenAV w' (fun b=>I b∨(w.heap.size≤b∧b< w'.heap.size)) noBs noMem x (.val (.one (.d (.v (.slice none 0 0)))))∧Below w.heap.size w w':=by
  intro hres
  unfold nilRes at hres
  split at hres
  ·rename_i t
   have hval:=st'.tmp t
   have hrun:∀ v:Value,a'.tmps.getD t undef=v→(results fn a'.tmps).run p.P w'= .ok v w':=by
    intro v hv
    subst hv
    exact Zab (P:=p.P) (a:=a') (w:=w') (vs:= [a'.tmps.getD t undef]) hrs rfl
   split at hres
   ·rename_i hv
    rcases hval with h1|⟨_,h1⟩
    ·rw [hv] at h1;simp at h1
    rw [hv] at h1
    have hx:=Zd h1
    exact⟨(st'.defers hmk),_,hrun _ hx,_,rfl,Den.v _ rfl,st'.below.to_below⟩
   ·exact hres.elim
  ·exact hres.elim
 cases e with
 |normal=>exact fin hq
 |ret=>exact fin hq
 |exit id=>exact hq.elim
 |goto l=>exact hq.elim
 |panic ch=>exact hq.elim
 |outgrown=>exact hq.elim
theorem ZfH {p : Prm} {f : FuncId} {fn : Func} {c : Code} (hf : p.P.funcs[f]? = some fn) (hb : fn.body = some c) (hn : (fn.name == "runtime.NumGoroutine") = false) (hnt : fn.ntmps = p.nt.n) (hpn : p.nt.pins = []) (hmk : p.nt.marks = false) {rs : List ResultVar} (hrs : fn.results = ⟨rs⟩)
  (hTB:TBok p.P p.TB) (hG:∀ w w',p.G w→Below w.heap.size w w'→p.G w') (hmix:p.P.follows .mixedOrders=true) (hc:codeOk c=true) {args:List AV} {T n:Nat} {xs:List (List D)} (hargs:freeAVs args=true) (hlen:Nat.ble args.length p.nt.n=true)
  (h:sp p c (RetNew rs T n xs) (envArgs 0 args) noMem):SpecR p.P p.G f args T n xs:=by
 refine⟨Zz hf hb hn,fun w I vs hw hI hrel=> ?_⟩
 refine calls_of_wp hf hb ?_
 have hlen':=Nat.le_of_ble_eq_true hlen
 have hvl:vs.length=args.length:=hrel.1
 have hIs:∀ b,I b→Stay (Base.all w) I noMem noBs w b:=fun b hb=> .inl ⟨hb,hI b hb⟩
 have st:St (Base.all w) I p.nt (envArgs 0 args) noMem noBs { tmps:=vs.toArray++Array.replicate (fn.ntmps - vs.toArray.size) undef,defers:= [] } w:=by
  refine⟨Bel.refl _ _,by simp [hnt];omega,fun _=>rfl,?_,fun o=>trivial,fun o o' b hm=>by simp [noMem,Ob.mut] at hm,?_,fun q o ho=>by simp [noMem,Ob.hs] at ho,fun t ht=>by rw [hpn] at ht;simp at ht,Marks.nil _ _⟩
  ·intro t
   rcases Zy args 0 t with h1|⟨_,v,h2,h3⟩
   ·exact .inl h1
   ·simp only [Nat.sub_zero] at h2
    have hlt:t< args.length:=(List.getElem?_eq_some_iff.1 h2).1
    refine .inr ⟨by omega,?_⟩
    rw [h3]
    obtain⟨y,hy,hd⟩:=hrel.get h2
    have e:(vs.toArray++Array.replicate (fn.ntmps - vs.toArray.size) undef).getD t undef=y:=by
     rw [Array.getD_eq_getD_getElem?,Array.getElem?_append_left (by simp;omega)]
     simp [hy]
    rw [e]
    have K:Keeps w I noBs noMem w (Stay (Base.all w) I noMem noBs w) noBs noMem (fun _=>False):=⟨fun b hb=>⟨hIs b hb,rfl⟩,fun _ _ h=>h.elim,fun _ _ _ _ _ _ h=>h.elim⟩
    exact K.av (fun o ho=>by rw [Z9 hargs v (List.mem_of_getElem? h2)] at ho;simp at ho) hd
  ·intro t o ho
   rcases Zy args 0 t with h1|⟨_,v,h2,h3⟩
   ·rw [h1] at ho;simp [AV.hs] at ho
   ·simp only [Nat.sub_zero] at h2
    rw [h3,Z9 hargs v (List.mem_of_getElem? h2)] at ho;simp at ho
 refine wp_mono (Zbk (w0:=Base.all w) (I0:=I) hTB (fun w' hb=>hG w w' hw hb.to_below) hmix c hc _ _ _ _ _ _ h st) ?_
 rintro e a' w' ⟨env',mem',bs',st',hq⟩
 have fin:rowRes env' mem' rs T n xs→a'.defers= []∧∃ v,(results fn a'.tmps).run p.P w'= .ok v w'∧∃ x,Ending.returned v= .returned x∧Fresh w I w' x T n xs∧Below w.heap.size w w':=by
  intro hres
  unfold rowRes at hres
  split at hres
  ·rename_i t
   have hval:=st'.tmp t
   have hrun:∀ v:Value,a'.tmps.getD t undef=v→(results fn a'.tmps).run p.P w'= .ok v w':=by
    intro v hv
    subst hv
    exact Zab (P:=p.P) (a:=a') (w:=w') (vs:= [a'.tmps.getD t undef]) hrs rfl
   split at hres
   ·rename_i o k hv
    rcases hval with h1|⟨_,h1⟩
    ·rw [hv] at h1;simp at h1
    rw [hv] at h1
    have hx:a'.tmps.getD t undef=bs' o:=h1.2 _ _ _ _ hres
    have hob:=st'.obs o
    rw [hres] at hob
    obtain⟨ys,g1,g2,g3,g4,g5⟩:=hob
    refine⟨(st'.defers hmk),bs' o,hrun _ hx,_,rfl,⟨ys,g1.all,g2,g3,g4,fun i j r d hi hj=> ?_⟩,st'.below.to_below⟩
    obtain⟨y,hy,hd⟩:=g5 i j r d hi hj
    refine⟨y,hy,Den.mono (fun b hb=>⟨?_,rfl⟩) hd⟩
    rcases hb with ⟨h2,h3⟩|⟨h2,h3,h4⟩
    ·refine⟨.inl h2,fun hbx=> ?_⟩
     have hown:(bs' o).ownBlock=some b:=by
      rcases g1.2 with ⟨e,_⟩|⟨g,cap,cur,e,_⟩
      ·rw [e] at hbx;simp [blk] at hbx
      ·rw [e] at hbx ⊢;simpa [blk,Value.ownBlock] using hbx
     exact g1.not hown h3
    ·exact⟨.inr ⟨Nat.le_of_not_lt h2,h3⟩,h4 o (by rw [hres];rfl)⟩
   ·rename_i hv
    obtain⟨rfl,hn0⟩:=hres
    rcases hval with h1|⟨_,h1⟩
    ·rw [hv] at h1;simp at h1
    rw [hv] at h1
    have hx:=Zd h1
    exact⟨(st'.defers hmk),_,hrun _ hx,_,rfl,⟨[],World.ownsRow_nil w' _ _ _,hn0,by simp,fun r hr=>by simp at hr,fun i j r d hi=>by simp at hi⟩,st'.below.to_below⟩
   ·exact hres.elim
  ·exact hres.elim
 cases e with
 |normal=>exact fin hq
 |ret=>exact fin hq
 |exit id=>exact hq.elim
 |goto l=>exact hq.elim
 |panic ch=>exact hq.elim
 |outgrown=>exact hq.elim
def argsT:List AV→Bool
 | []=>true
 |v :: r=>(v.hs.all fun h=>Nat.beq h.1 1000&&Nat.beq h.2 0)&&argsT r
theorem Zgp {l:List AV} (h:argsT l=true):∀ v,v∈l→∀ q,q∈v.hs→q=(1000,0):=by
 induction l with
 |nil=>intro v hv;simp at hv
 |cons a r ih=>
  intro v hv q hq
  simp only [argsT,Bool.and_eq_true] at h
  rcases List.mem_cons.1 hv with rfl|hv
  ·have:=List.all_eq_true.1 h.1 q hq
   simp only [Bool.and_eq_true] at this
   exact Prod.ext (Nat.eq_of_beq_eq_true this.1) (Nat.eq_of_beq_eq_true this.2)
  ·exact ih h.2 v hv q hq
theorem ZkO {p : Prm} {f : FuncId} {fn : Func} {c : Code} (hf : p.P.funcs[f]? = some fn) (hb : fn.body = some c) (hn : (fn.name == "runtime.NumGoroutine") = false) (hnt : fn.ntmps = p.nt.n) (hpn : p.nt.pins = []) (hmk : p.nt.marks = false) {rs : List ResultVar} (hrs : fn.results = ⟨rs⟩)
  (hTB:TBok p.P p.TB) (hmix:p.P.follows .mixedOrders=true) (hc:codeOk c=true) {args:List AV} {T n:Nat} {xs:List (List D)} {T' n':Nat} {ys:List (List D)} (hargs:argsT args=true) (hlen:Nat.ble args.length p.nt.n=true)
  (h:sp p c (RetNew rs T' n' ys) (envArgs 0 args) (memT T n xs)):SpecT p.P p.G f args T n xs T' n' ys:=by
 refine⟨Zz hf hb hn,fun w I vs x hG hI hob hrel=> ?_⟩
 refine calls_of_wp hf hb ?_
 have hlen':=Nat.le_of_ble_eq_true hlen
 have hvl:vs.length=args.length:=hrel.1
 have hIs:∀ b,I b→Stay (Base.less w x) I (memT T n xs) (fun _=>x) w b:=fun b hb=> .inl ⟨hb,hI b hb⟩
 have h1000:memT T n xs 1000= .row T n 0 xs true:=rfl
 have hne:∀ o,o≠1000→memT T n xs o= .gone:=fun o ho=>by
  unfold memT
  cases e:Nat.beq o 1000 with
  |true=>exact absurd (Nat.eq_of_beq_eq_true e) ho
  |false=>rfl
 have st:St (Base.less w x) I p.nt (envArgs 0 args) (memT T n xs) (fun _=>x) { tmps:=vs.toArray++Array.replicate (fn.ntmps - vs.toArray.size) undef,defers:= [] } w:=by
  refine⟨Bel.refl _ _,by simp [hnt];omega,fun _=>rfl,?_,fun o=> ?_,fun o o' b hm hm' _ _=> ?_,?_,fun q o ho=> ?_,fun t ht=>by rw [hpn] at ht;simp at ht,Marks.nil _ _⟩
  ·intro t
   rcases Zy args 0 t with h1|⟨_,v,h2,h3⟩
   ·exact .inl h1
   ·simp only [Nat.sub_zero] at h2
    have hlt:t< args.length:=(List.getElem?_eq_some_iff.1 h2).1
    refine .inr ⟨by omega,?_⟩
    rw [h3]
    obtain⟨y,hy,hd⟩:=hrel.get h2
    have e:(vs.toArray++Array.replicate (fn.ntmps - vs.toArray.size) undef).getD t undef=y:=by
     rw [Array.getD_eq_getD_getElem?,Array.getElem?_append_left (by simp;omega)]
     simp [hy]
    rw [e]
    have K:Keeps w I (fun _=>x) (memT T n xs) w (Stay (Base.less w x) I (memT T n xs) (fun _=>x) w) (fun _=>x) (memT T n xs) (fun _=>True):=⟨fun b hb=>⟨hIs b hb,rfl⟩,fun _ _ _ _=>rfl,fun o T1 n1 k1 xs1 own1 _ hm=>⟨T1,xs1,own1,hm,rfl⟩⟩
    exact K.av (fun _ _=>trivial) hd
  ·by_cases e:o=1000
   ·subst e
    rw [h1000]
    obtain⟨cs,g1,g2,g3,g4,g5⟩:=hob
    refine⟨cs,g1,g2,g3,g4,fun i j r d hi hj=> ?_⟩
    obtain⟨y,hy,hd⟩:=g5 i j r d hi hj
    exact⟨y,hy,Den.mono (fun b hb=>⟨hIs b hb,rfl⟩) hd⟩
   ·rw [hne o e];trivial
  ·have e1:o=1000:=Classical.byContradiction fun e=>by rw [hne o e] at hm;simp [Ob.mut] at hm
   have e2:o'=1000:=Classical.byContradiction fun e=>by rw [hne o' e] at hm';simp [Ob.mut] at hm'
   rw [e1,e2]
  ·intro t o ho
   rcases Zy args 0 t with h1|⟨_,v,h2,h3⟩
   ·rw [h1] at ho;simp [AV.hs] at ho
   ·simp only [Nat.sub_zero] at h2
    rw [h3] at ho
    obtain rfl:=Zgp hargs v (List.mem_of_getElem? h2) o ho
    exact⟨rfl,Nat.le_refl _⟩
  ·by_cases e:q=1000
   ·subst e;rw [h1000] at ho;simp [Ob.hs] at ho
   ·rw [hne q e] at ho;simp [Ob.hs] at ho
 refine wp_mono (Zbk (w0:=Base.less w x) (I0:=I) hTB (fun w' hb=>hG w' hb) hmix c hc _ _ _ _ _ _ h st) ?_
 rintro e a' w' ⟨env',mem',bs',st',hq⟩
 have fin:rowRes env' mem' rs T' n' ys→a'.defers= []∧∃ v,(results fn a'.tmps).run p.P w'= .ok v w'∧∃ y,Ending.returned v= .returned y∧ObOk (Base.less w x) w' (fun b=>(I b∨(¬ (Base.less w x).K b∧b< w'.heap.size))∧blk y≠some b) noBs noMem y (.row T' n' 0 ys true)∧Bel (Base.less w x).K w w':=by
  intro hres
  unfold rowRes at hres
  split at hres
  ·rename_i t
   have hval:=st'.tmp t
   have hrun:∀ v:Value,a'.tmps.getD t undef=v→(results fn a'.tmps).run p.P w'= .ok v w':=by
    intro v hv
    subst hv
    exact Zab (P:=p.P) (a:=a') (w:=w') (vs:= [a'.tmps.getD t undef]) hrs rfl
   split at hres
   ·rename_i o k hv
    rcases hval with h1|⟨_,h1⟩
    ·rw [hv] at h1;simp at h1
    rw [hv] at h1
    have hx:a'.tmps.getD t undef=bs' o:=h1.2 _ _ _ _ hres
    have hob':=st'.obs o
    rw [hres] at hob'
    have hblk:=hob'.block rfl
    obtain⟨cs,g1,g2,g3,g4,g5⟩:=hob'
    refine⟨(st'.defers hmk),bs' o,hrun _ hx,_,rfl,⟨cs,g1,g2,g3,g4,fun i j r d hi hj=> ?_⟩,st'.below⟩
    obtain⟨y,hy,hd⟩:=g5 i j r d hi hj
    refine⟨y,hy,Den.mono (fun b hb=>⟨?_,rfl⟩) hd⟩
    rcases hb with ⟨h2,h3⟩|⟨h2,h3,h4⟩
    ·exact⟨.inl h2,fun hbx=>(hblk b hbx).1 h3⟩
    ·exact⟨.inr ⟨h2,h3⟩,h4 o (by rw [hres];rfl)⟩
   ·rename_i hv
    obtain⟨rfl,hn0⟩:=hres
    rcases hval with h1|⟨_,h1⟩
    ·rw [hv] at h1;simp at h1
    rw [hv] at h1
    have hx:=Zd h1
    exact⟨(st'.defers hmk),_,hrun _ hx,_,rfl,⟨[],Zap _ w' _ _,hn0,by simp,fun r hr=>by simp at hr,fun i j r d hi=>by simp at hi⟩,st'.below⟩
   ·exact hres.elim
  ·exact hres.elim
 cases e with
 |normal=>exact fin hq
 |ret=>exact fin hq
 |exit id=>exact hq.elim
 |goto l=>exact hq.elim
 |panic ch=>exact hq.elim
 |outgrown=>exact hq.elim
def RetL (p:Prm) (rs:List ResultVar) (r:AV) (i T n:Nat) (xs:List (List D)):Exit→Env→Mem→Prop
 | .normal,env,mem=>resK p env (frzR env rs mem) rs (fun l=>r=tupOf l)∧∃ k,env i= .val (.one (.row 1000 k))∧frzR env rs mem 1000= .row T n k xs true
 | .ret,env,mem=>resK p env (frzR env rs mem) rs (fun l=>r=tupOf l)∧∃ k,env i= .val (.one (.row 1000 k))∧frzR env rs mem 1000= .row T n k xs true
 |_,_,_=>False
theorem ZkP {i : Nat} {p : Prm} {f : FuncId} {fn : Func} {c : Code} (hf : p.P.funcs[f]? = some fn) (hb : fn.body = some c) (hn : (fn.name == "runtime.NumGoroutine") = false) (hnt : fn.ntmps = p.nt.n) (hpn : p.nt.pins = [i]) (hmk : p.nt.marks = false) {rs : List ResultVar} (hrs : fn.results = ⟨rs⟩)
  (hTB:TBok p.P p.TB) (hmix:p.P.follows .mixedOrders=true) (hc:codeOk c=true) {args:List AV} {T n:Nat} {xs:List (List D)} {r:AV} (hargs:argsT args=true) (hlen:Nat.ble args.length p.nt.n=true)
  (hai:args[i]? =some (.val (.one (.row 1000 0)))) (h:sp p c (RetL p rs r i T n xs) (envArgs 0 args) (memT T n xs)):SpecL p.P p.G f args T n xs r:=by
 refine⟨Zz hf hb hn,fun w I vs x hG hI hob hrel=> ?_⟩
 refine calls_of_wp hf hb ?_
 have hlen':=Nat.le_of_ble_eq_true hlen
 have hvl:vs.length=args.length:=hrel.1
 have hIs:∀ b,I b→Stay (Base.less w x) I (memT T n xs) (fun _=>x) w b:=fun b hb=> .inl ⟨hb,hI b hb⟩
 have h1000:memT T n xs 1000= .row T n 0 xs true:=rfl
 have hne:∀ o,o≠1000→memT T n xs o= .gone:=fun o ho=>by
  unfold memT
  cases e:Nat.beq o 1000 with
  |true=>exact absurd (Nat.eq_of_beq_eq_true e) ho
  |false=>rfl
 have st:St (Base.less w x) I p.nt (envArgs 0 args) (memT T n xs) (fun _=>x) { tmps:=vs.toArray++Array.replicate (fn.ntmps - vs.toArray.size) undef,defers:= [] } w:=by
  refine⟨Bel.refl _ _,by simp [hnt];omega,fun _=>rfl,?_,fun o=> ?_,fun o o' b hm hm' _ _=> ?_,?_,fun q o ho=> ?_,fun t ht=> ?_,Marks.nil _ _⟩
  ·intro t
   rcases Zy args 0 t with h1|⟨_,v,h2,h3⟩
   ·exact .inl h1
   ·simp only [Nat.sub_zero] at h2
    have hlt:t< args.length:=(List.getElem?_eq_some_iff.1 h2).1
    refine .inr ⟨by omega,?_⟩
    rw [h3]
    obtain⟨y,hy,hd⟩:=hrel.get h2
    have e:(vs.toArray++Array.replicate (fn.ntmps - vs.toArray.size) undef).getD t undef=y:=by
     rw [Array.getD_eq_getD_getElem?,Array.getElem?_append_left (by simp;omega)]
     simp [hy]
    rw [e]
    have K:Keeps w I (fun _=>x) (memT T n xs) w (Stay (Base.less w x) I (memT T n xs) (fun _=>x) w) (fun _=>x) (memT T n xs) (fun _=>True):=⟨fun b hb=>⟨hIs b hb,rfl⟩,fun _ _ _ _=>rfl,fun o T1 n1 k1 xs1 own1 _ hm=>⟨T1,xs1,own1,hm,rfl⟩⟩
    exact K.av (fun _ _=>trivial) hd
  ·by_cases e:o=1000
   ·subst e
    rw [h1000]
    obtain⟨cs,g1,g2,g3,g4,g5⟩:=hob
    refine⟨cs,g1,g2,g3,g4,fun i j r d hi hj=> ?_⟩
    obtain⟨y,hy,hd⟩:=g5 i j r d hi hj
    exact⟨y,hy,Den.mono (fun b hb=>⟨hIs b hb,rfl⟩) hd⟩
   ·rw [hne o e];trivial
  ·have e1:o=1000:=Classical.byContradiction fun e=>by rw [hne o e] at hm;simp [Ob.mut] at hm
   have e2:o'=1000:=Classical.byContradiction fun e=>by rw [hne o' e] at hm';simp [Ob.mut] at hm'
   rw [e1,e2]
  ·intro t o ho
   rcases Zy args 0 t with h1|⟨_,v,h2,h3⟩
   ·rw [h1] at ho;simp [AV.hs] at ho
   ·simp only [Nat.sub_zero] at h2
    rw [h3] at ho
    obtain rfl:=Zgp hargs v (List.mem_of_getElem? h2) o ho
    exact⟨rfl,Nat.le_refl _⟩
  ·by_cases e:q=1000
   ·subst e;rw [h1000] at ho;simp [Ob.hs] at ho
   ·rw [hne q e] at ho;simp [Ob.hs] at ho
  ·rw [hpn] at ht
   obtain rfl:t=i:=by simpa using ht
   have hlt:t< args.length:=(List.getElem?_eq_some_iff.1 hai).1
   obtain⟨y,hy,hd⟩:=hrel.get hai
   have e:(vs.toArray++Array.replicate (fn.ntmps - vs.toArray.size) undef).getD t undef=y:=by
    rw [Array.getD_eq_getD_getElem?,Array.getElem?_append_left (by simp;omega)]
    simp [hy]
   rw [e]
   exact hd.2 T n xs true h1000
 refine wp_mono (Zbk (w0:=Base.less w x) (I0:=I) hTB (fun w' hb=>hG w' hb) hmix c hc _ _ _ _ _ _ h st) ?_
 rintro e a' w' ⟨env',mem',bs',st',hq⟩
 have fin:resK p env' (frzR env' rs mem') rs (fun l=>r=tupOf l)∧(∃ k,env' i= .val (.one (.row 1000 k))∧frzR env' rs mem' 1000= .row T n k xs true)→a'.defers= []∧∃ v,(results fn a'.tmps).run p.P w'= .ok v w'∧∃ y,Ending.returned v= .returned y∧
   DenAV w' (fun b=>(I b∨(¬ (Base.less w x).K b∧b< w'.heap.size))∧blk x≠some b) noBs noMem y r∧ObOk (Base.less w x) w' (fun b=>(I b∨(¬ (Base.less w x).K b∧b< w'.heap.size))∧blk x≠some b) noBs noMem x (.row T n 0 xs true)∧Bel (Base.less w x).K w w':=by
  rintro⟨hres,k,hk1,hk2⟩
  have st1:=St.frzR rs st'
  generalize frzR env' rs mem'=mem1 at hres st1 hk2
  have hx:bs' 1000=x:=by
   have h1:=st1.tmp i
   rw [hk1] at h1
   rcases h1 with h1|⟨_,h1⟩
   ·simp at h1
   ·rw [← h1.2 _ _ _ _ hk2,st1.pin i (by rw [hpn];exact List.mem_cons_self)];rfl
  have hob':=st1.obs 1000
  rw [hk2] at hob'
  have hblk:=hob'.block rfl
  have hst:∀ b,Stay (Base.less w x) I mem1 bs' w' b→((I b∨(¬ (Base.less w x).K b∧b< w'.heap.size))∧blk x≠some b)∧w'.heap[b]? =w'.heap[b]? :=by
   intro b hb
   rcases hb with ⟨g1,g2⟩|⟨g1,g2,g3⟩
   ·exact⟨⟨.inl g1,g2.2⟩,rfl⟩
   ·exact⟨⟨.inr ⟨g1,g2⟩,fun hb=>g3 1000 (by rw [hk2];rfl) (by rw [hx];exact hb)⟩,rfl⟩
  obtain⟨l,vs',h1,h2,h3,h4⟩:=Zbn hTB st1 rs _ hres
  have K:Keeps w' (Stay (Base.less w x) I mem1 bs' w') noBs noMem w' (fun b=>(I b∨(¬ (Base.less w x).K b∧b< w'.heap.size))∧blk x≠some b) noBs noMem (fun _=>False):=⟨hst,fun _ _ h=>h.elim,fun _ _ _ _ _ _ h=>h.elim⟩
  have hrel:Rel2 (fun y s=>DenS w' (fun b=>(I b∨(¬ (Base.less w x).K b∧b< w'.heap.size))∧blk x≠some b) noBs noMem y s) vs' l:=h4.mono fun y s hs hd=>K.s (fun o ho=>by rw [h2 s hs] at ho;simp at ho) hd
  refine⟨st1.defers hmk,(if h:vs'.length=1 then vs'[0] else .tuple vs'.toArray),Zab hrs h3,_,rfl,?_,?_,st1.below⟩
  ·rw [h1]
   match l,vs',hrel with
   | [s], [v],hrel=>exact hrel.of_cons.1
   | [], [],hrel=>exact⟨[],rfl,rfl,fun j s y hs=>by simp at hs⟩
   |s :: s' :: l,v :: v' :: vs,hrel=>
    rw [dif_neg (by simp)]
    exact⟨v :: v' :: vs,rfl,hrel.1,hrel.2⟩
   | [],_ :: _,hrel=>have:=hrel.1;simp at this
   | [_], [],hrel=>have:=hrel.1;simp at this
   | [_],_ :: _ :: _,hrel=>have:=hrel.1;simp at this
   |_ :: _ :: _, [],hrel=>have:=hrel.1;simp at this
   |_ :: _ :: _, [_],hrel=>have:=hrel.1;simp at this
  ·obtain⟨cs,g1,g2,g3,g4,g5⟩:=hob'
   rw [hx] at g1
   refine⟨cs,g1,g2,g3,g4,fun i j r d hi hj=> ?_⟩
   obtain⟨y,hy,hd⟩:=g5 i j r d hi hj
   exact⟨y,hy,Den.mono hst hd⟩
 cases e with
 |normal=>exact fin hq
 |ret=>exact fin hq
 |exit id=>exact hq.elim
 |goto l=>exact hq.elim
 |panic ch=>exact hq.elim
 |outgrown=>exact hq.elim
end Go.Proofs.YtcogfmileelkeaaDoor.eng
