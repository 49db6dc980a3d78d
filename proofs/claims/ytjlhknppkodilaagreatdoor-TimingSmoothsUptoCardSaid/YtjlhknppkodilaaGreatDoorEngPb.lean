/- The engine, no program: code by data. A state of a call is given by data (variables, rows, lists that stay); sp reckons what a piece of code does to it; Zdr: a function whose code does so keeps its contract. Joined by wip/merge_eng.py. -/
import Derived.Test.YtjlhknppkodilaaGreatDoorEngP
import Derived.Lib.ConvBytes
import Derived.Laws.BytesArg
import Derived.Maps.RangeRun
namespace Go.Proofs.YtjlhknppkodilaaGreatDoor.eng
open Go.RowKit mem
section
variable {P : Program} {G : World → Prop} {w0 : Base} {I0 : Nat → Prop} {nt : Shape} {env env' : Env} {mem mem' : Mem} {bs : Bs} {a : Act} {w : World}
def planIndexV (TB:List (Nat×Ty)) (env:Env) (T:TypeId) (x i:Operand):Plan:=
 match look TB T with
 |some ty=>match ty.str with
  |true=>match opd env x with
   | .val (.one (.d (.v (.string s))))=>intK (opd env i) (fun m=> .ask fun r=>∃ b:UInt8,0≤m∧s[m.toNat]? =some b∧r=one (.int .u8 (b.toNat:Int))) .bad
   |_=> .bad
  |false=> .bad
 |none=> .bad
theorem ZfH {TB:List (Nat×Ty)} (hTB:TBok P TB) (st:St w0 I0 nt env mem bs a w) (hE:∀ t,env' t= .junk∨env' t=env t)
  (o:Oper) (T:TypeId) (x i:Operand) (ho:o.op= .index T x i):SoundPlan P w0 I0 nt env mem a w o (planIndexV TB env' T x i):=by
 unfold planIndexV
 split
 ·rename_i ty hty
  obtain⟨ti,tu,tz,hi⟩:=Zj (hTB T ty (Ze hty))
  split
  ·rename_i hstr
   have hu:=hi.string hstr
   obtain⟨h1,_⟩:=Zb st hE x
   obtain⟨g1,_⟩:=Zb st hE i
   split
   ·rename_i s hs
    rw [hs] at h1
    have ex:=Zg h1
    rcases Zx (opd env' i) (fun m=>Plan.ask fun r=>∃ b:UInt8,0≤m∧s[m.toNat]? =some b∧r=one (.int .u8 (b.toNat:Int))) Plan.bad with ⟨kd,m,f1,f2⟩|f2
    ·rw [f2]
     rw [f1] at g1
     have ei:=Zg g1
     intro r ⟨b,h0,hb,hr⟩
     subst hr
     refine Za (.int .u8 (b.toNat:Int)) ?_ (Zc st (Den.v _ rfl) (fun p hp=>by simp [one,AV.hs,S.hs,C.hs] at hp))
     simp [execOp,ho,ex,ei,Instr.index,asIntOf,run_underlying hu,h0,hb]
    ·rw [f2];trivial
   ·trivial
  ·trivial
 ·trivial
def rowsK {β:Type} (mem:Mem) (v:AV) (k:List (List D)→β) (bad:β):β:=
 match v with
 | .val (.one (.d (.list xs)))=>k xs
 | .val (.one (.full xs))=>k xs
 | .val (.one (.row o v))=>match mem o with
  | .row _ _ v' xs _=>bif Nat.beq v v' then k xs else bad
  |_=>bad
 | .val (.one (.d (.v (.slice none 0 0))))=>k []
 |_=>bad
def Singles (w:World) (I:Nat→Prop) (x:Value) (xs:List (List D)):Prop:=
 (xs= []∧∃ ad c,x= .slice ad 0 c)∨∃ b off c,x= .slice (some ⟨b,off,none⟩) xs.length c∧∀ (i:Nat) (d:D),xs[i]? =some [d]→∃ y,w.cell? ⟨b,off+i,none⟩=some y∧Den w I y d
theorem ZbZ {I:Nat→Prop} {x:Value} {xs:List (List D)} (h:Den w I x (.list xs)) (h1:∀ r,r∈xs→r.length=1):Singles w I x xs:=by
 generalize hd:(D.list xs)=d at h
 cases h with
 |v x hx=>simp at hd
 |iface _ _ _ _ _=>simp at hd
 |fn _ _ _ _ _ _ _ _=>simp at hd
 |nil ad cap=>simp only [D.list.injEq] at hd;subst hd;exact .inl ⟨rfl,ad,cap,rfl⟩
 |list b off cap n ys c hI hn hl hc hdd hcap=>
  simp only [D.list.injEq] at hd
  subst hd
  refine .inr ⟨b,off,cap,rfl,fun i d hi=> ?_⟩
  have hlt:i< xs.length:=(List.getElem?_eq_some_iff.1 hi).1
  have hn1:n=1:=by rw [← hl _ (List.mem_of_getElem? hi)];rfl
  subst hn1
  have:=hc i 0 hlt (by omega)
  rw [Nat.mul_one,Nat.add_zero] at this
  exact⟨_,this,hdd i 0 _ d hi rfl⟩
theorem Zi3 {β:Type} (st:St w0 I0 nt env mem bs a w) (hM:∀ o,mem' o= .gone∨mem' o=mem o) (v:AV) (k:List (List D)→β) (bad:β):
  (∃ xs,rowsK mem' v k bad=k xs∧∀ x,DenAV w (Stay w0 I0 mem bs w) bs mem x v→(∀ r,r∈xs→r.length=1)→Singles w (Stay w0 I0 mem bs w) x xs)∨rowsK mem' v k bad=bad:=by
 unfold rowsK
 split
 ·exact .inl ⟨_,rfl,fun x h h1=>ZbZ (show Den w _ x _ from h) h1⟩
 ·exact .inl ⟨_,rfl,fun x h h1=>ZbZ h.1 h1⟩
 ·rename_i o v
  split
  ·rename_i T n v' xs own ho
   have ho':mem o= .row T n v' xs own:=by
    rcases hM o with h|h
    ·rw [h] at ho;simp at ho
    ·rw [← h];exact ho
   cases e:Nat.beq v v' with
   |false=>exact .inr rfl
   |true=>
    obtain rfl:=Nat.eq_of_beq_eq_true e
    refine .inl ⟨_,rfl,fun x h h1=> ?_⟩
    have hx:x=bs o:=h.2 _ _ _ _ ho'
    have hob:=st.obs o
    rw [ho'] at hob
    cases own with
    |false=>rw [hx];exact ZbZ (show Den w _ (bs o) _ from hob) h1
    |true=>
     obtain⟨ys,g1,g2,g3,g4,g5⟩:=hob
     rcases g1.2 with ⟨g6,g7⟩|⟨g,cap,cur,g6,_⟩
     ·have:xs= []:=List.length_eq_zero_iff.1 g7
      exact .inl ⟨this,none,0,by rw [hx,g6]⟩
     ·refine .inr ⟨g,0,cap,by rw [hx,g6],fun i d hi=> ?_⟩
      have hn1:n=1:=by rw [← g4 _ (List.mem_of_getElem? hi)];rfl
      subst hn1
      obtain⟨y,hy,hd⟩:=g5 i 0 _ d hi rfl
      rw [Nat.mul_one,Nat.add_zero] at hy
      have:=g1.row.cells (g:=g) (by rw [g6];rfl) i y hy
      rw [Addr.add_lit] at this
      exact⟨y,this,hd⟩
  ·exact .inr rfl
 ·refine .inl ⟨[],rfl,fun x h _=> .inl ⟨rfl,none,0,?_⟩⟩
  exact Zg h
 ·exact .inr rfl
def bytesD (s:ByteArray):List (List D):=s.data.toList.map fun c=> [D.v (.int .u8 (c.toNat:Int))]
theorem Zgw (w:World) (e:TypeId) (s:ByteArray):Below w.heap.size w (Lib.bytesWorld w e s):=
 ⟨rfl,rfl,rfl,by rw [Lib.bytesWorld_size];omega,fun k hk=>Lib.bytesWorld_at_old w e s k hk⟩
theorem Zjv (w:World) (e:TypeId) (s:ByteArray) {I:Nat→Prop} (hI:I w.heap.size) (c:Nat) (hc:s.size≤c):Den (Lib.bytesWorld w e s) I (.slice (some ⟨w.heap.size,0,none⟩) s.size c) (.list (bytesD s)):=by
 have hl:(bytesD s).length=s.size:=by unfold bytesD;rw [List.length_map];rfl
 rw [← hl]
 refine Den.list w.heap.size 0 c 1 (bytesD s) (fun i _=> .int .u8 ((s.data.toList.getD i 0).toNat:Int)) hI (by decide) (fun r hr=> ?_) (fun i j hi hj=> ?_) (fun i j r d h1 h2=> ?_) (by rw [hl];exact hc)
 ·obtain⟨x,_,rfl⟩:=List.mem_map.1 hr;rfl
 ·obtain rfl:j=0:=by omega
  rw [hl] at hi
  have:=Lib.bytesWorld_cell w e s i hi
  rw [show 0+i*1+0=i by omega];exact this
 ·unfold bytesD at h1
  rw [List.getElem?_map] at h1
  cases e1:s.data.toList[i]? with
  |none=>rw [e1] at h1;simp at h1
  |some x=>
   rw [e1] at h1
   obtain rfl: [D.v (.int .u8 (x.toNat:Int))]=r:=Option.some.inj h1
   have hj:j=0:=by
    have:=(List.getElem?_eq_some_iff.1 h2).1
    simp at this;omega
   subst hj
   obtain rfl:D.v (.int .u8 (x.toNat:Int))=d:=Option.some.inj h2
   rw [List.getD_eq_getElem?_getD,e1]
   exact Den.v _ rfl
def planConvert (P:Program) (env:Env) (mem:Mem) (src dst:TypeId) (x:Operand):Plan:=
 match opd env x with
 | .val (.one (.d (.v (.int _ n))))=> .ask fun r=>∃ k',(P.underlying src).isSome=true∧P.underlying dst=some (.int k')∧r=one (.int k' (k'.wrap n))
 | .val (.one (.d (.v (.string s))))=> .ask fun r=>∃ e,(P.underlying src).isSome=true∧P.underlying dst=some (.slice e)∧P.underlying e=some (.int .u8)∧r= .val (.one (.d (.list (bytesD s))))
 |v=>rowsK mem v (fun xs=> .ask fun r=>∃ (e:TypeId) (ns:List Int),xs=ns.map (fun n=> [D.v (.int .u8 n)])∧P.underlying src=some (.slice e)∧P.underlying e=some (.int .u8)∧P.underlying dst=some .string∧r=one (.string (strOfNums ns))) .bad
theorem ZeO (st:St w0 I0 nt env mem bs a w) (hE:∀ t,env' t= .junk∨env' t=env t) (hM:∀ o,mem' o= .gone∨mem' o=mem o)
  (o:Oper) (src dst:TypeId) (x:Operand) (ho:o.op= .convert src dst x):SoundPlan P w0 I0 nt env mem a w o (planConvert P env' mem' src dst x):=by
 obtain⟨h1,_⟩:=Zb st hE x
 unfold planConvert
 split
 ·rename_i k n hn
  rw [hn] at h1
  have e:=Zg h1
  intro r ⟨k',hs,hd,hr⟩
  subst hr
  refine Za (.int k' (k'.wrap n)) ?_ (Zc st (Den.v _ rfl) (fun p hp=>by simp [one,AV.hs,S.hs,C.hs] at hp))
  obtain⟨d,hd'⟩:=Option.isSome_iff_exists.mp hs
  have:(convert src dst (.int k n)).run P w= .ok (.int k' (k'.wrap n)) w:=by simp [convert,run_underlying hd',run_underlying hd,Conv.intToInt]
  simp [execOp,ho,e,this]
 ·rename_i s hn
  rw [hn] at h1
  have e:=Zg h1
  intro r ⟨el,hs,hd,he,hr⟩
  subst hr
  obtain⟨d,hd'⟩:=Option.isSome_iff_exists.mp hs
  have hrun:=Lib.run_convert_string_bytes (P:=P) w src dst el s hd' hd he
  refine Za (w':=Lib.bytesWorld w el s) (.slice (some ⟨w.heap.size,0,none⟩) s.size (grownCap w s.size 0 el)) ?_ ?_
  ·simp [execOp,ho,e,hrun]
  ·have hb:=Zgw w el s
   obtain⟨K,st'⟩:=st.grow hb
   refine Zc st' (Zjv w el s (Zbs hb st _ (.inr ⟨Nat.le_refl _,by rw [Lib.bytesWorld_size];omega⟩)) _ ?_) (fun p hp=>by simp [AV.hs,S.hs,C.hs] at hp)
   exact grownCap_ge w s.size 0 el
 ·rename_i v hv
  rcases Zi3 st hM (opd env' x) (fun xs=>Plan.ask fun r=>∃ (e:TypeId) (ns:List Int),xs=ns.map (fun n=> [D.v (.int .u8 n)])∧P.underlying src=some (.slice e)∧P.underlying e=some (.int .u8)∧P.underlying dst=some .string∧r=one (.string (strOfNums ns))) Plan.bad with ⟨xs,e1,h2⟩|e1
  ·rw [e1]
   intro r ⟨e,ns,hxs,hs,he,hd,hr⟩
   subst hr
   refine Za (.string (strOfNums ns)) ?_ (Zc st (Den.v _ rfl) (fun p hp=>by simp [one,AV.hs,S.hs,C.hs] at hp))
   have hrun:(convert src dst (a.eval x)).run P w= .ok (.string (strOfNums ns)) w:=by
    rcases h2 _ h1 (by intro r hr;rw [hxs] at hr;obtain⟨n,_,rfl⟩:=List.mem_map.1 hr;rfl) with ⟨h3,ad,c,h4⟩|⟨b,off,c,h4,h5⟩
    ·rw [h4]
     rw [h3] at hxs
     have hns:ns= []:=List.map_eq_nil_iff.1 hxs.symm
     subst hns
     cases ad with
     |none=>
      have:=run_convert_bytes_nil (P:=P) w src e hs he 0 c dst hd
      rw [this];rfl
     |some q=>
      have:=run_convert_bytes_string (P:=P) w src dst e (some q) 0 c hs he hd
      rw [this,run_bytesToString w q 0 c [] (by simp [loadCells,loadCellsFrom])]
      rfl
    ·rw [h4]
     have hlen:ns.length=xs.length:=by rw [hxs,List.length_map]
     refine run_convert_bytes_arg (P:=P) w src e hs he b off xs.length c ns hlen (fun i hi=> ?_) dst hd
     have hin:i< ns.length:=by omega
     obtain⟨y,hy,hden⟩:=h5 i (.v (.int .u8 ns[i])) (by rw [hxs,List.getElem?_map,List.getElem?_eq_getElem hin];rfl)
     cases hden
     rw [hy]
     simp [List.getD,List.getElem?_eq_getElem hin]
   simp [execOp,ho,hrun]
  ·rw [e1];trivial
end
section
variable {P : Program} {G : World → Prop} {w0 : Base} {I0 : Nat → Prop} {nt : Shape} {env env' : Env} {mem mem' : Mem} {bs : Bs} {a : Act} {w : World}
theorem Za9 {α:Type} (f:Nat→α) (i:Nat):upd f i (f i)=f:=by
 funext j
 by_cases e:j=i
 ·subst e;rw [Zd]
 ·rw [ZG _ _ e]
theorem St.freeze (st:St w0 I0 nt env mem bs a w) (o:Nat) {T n k:Nat} {xs:List (List D)} (hm:mem o= .row T n k xs true):St w0 I0 nt env (upd mem o (.row T n k xs false)) bs a w:=by
 have hv:Turns mem bs o (.row T n k xs false) (bs o):= .inr (.inr (.inl ⟨T,n,k,xs,true,T,n,k,xs,false,hm,rfl,Nat.le_refl _,fun _=>⟨rfl,rfl⟩⟩))
 have K:=st.keeps o (.row T n k xs false) (bs o) (Bel.refl _ w) (fun _ _ _=>rfl) (fun b hb=>by simp [Ob.mut] at hb) hv
 have h:=st.update o (.row T n k xs false) (bs o) (Bel.refl _ w) (fun _ _ _=>rfl) (fun b hb=>by simp [Ob.mut] at hb) hv rfl (fun p hp=>by simp [Ob.hs] at hp) (by
  rw [Za9] at K ⊢
  show Den w _ (bs o) (.list xs)
  have ho:=st.obs o
  rw [hm] at ho
  obtain⟨ys,hown,hn,hlen,hrow,hden⟩:=ho
  have hown':=hown
  obtain⟨h1,h2⟩:=hown
  rcases h2 with ⟨hnil,h0⟩|⟨g,cap,cur,hbs,hb,hg,hle,hmax,hsz,htk⟩
  ·rw [hnil]
   have:xs= []:=List.length_eq_zero_iff.1 h0
   subst this
   exact Den.nil none 0
  ·have hlt:g< w.heap.size:=(Array.getElem?_eq_some_iff.1 hg).1
   have hblk:Blk (bs o) g:=by rw [hbs];rfl
   have hown2:(bs o).ownBlock=some g:=by rw [hbs];rfl
   have hcells:=hown'.row.cells hown2
   rw [hbs]
   refine Den.list g 0 cap n xs (fun i j=>ys.getD (i*n+j) undef) (.inr ⟨hb,hlt,fun o' hm' hbk=> ?_⟩) hn hrow (fun i j hi hj=> ?_) (fun i j r d hr hd=> ?_) hle
   ·by_cases e:o'=o
    ·subst e;rw [Zd] at hm';simp [Ob.mut] at hm'
    ·rw [ZG _ _ e] at hm'
     exact e (st.sep o' o g hm' (by rw [hm];rfl) hbk hblk)
   ·have hin:i*n+j< ys.length:=by
     have:(i+1)*n≤xs.length*n:=Nat.mul_le_mul_right _ hi
     rw [Nat.add_mul,Nat.one_mul] at this
     omega
    have:=hcells (i*n+j) ys[i*n+j] (List.getElem?_eq_getElem hin)
    rw [Addr.add_lit] at this
    rw [show 0+i*n+j=0+(i*n+j) by omega,this]
    simp [List.getD,List.getElem?_eq_getElem hin]
   ·obtain⟨y,hy,hd'⟩:=hden i j r d hr hd
    have e:ys.getD (i*n+j) undef=y:=by simp [List.getD,hy]
    rw [e]
    exact Den.mono K.stay hd')
 rwa [Za9] at h
noncomputable def ownCells (mem:Mem) (q:Option (Nat×Ob)) (cs:List C):Option (Nat×Ob):=
 @List.rec C (fun _=>Option (Nat×Ob)) q (fun c _ r=>match c with
  | .row o _=>match mem o with
   | .row T n v ys true=>some (o,.row T n v ys false)
   |_=>r
  |_=>r) cs
theorem Zg8 {q:Option (Nat×Ob)} {cs:List C} {p:Nat×Ob} (h:ownCells mem q cs=some p):q=some p∨∃ T n k ys,mem p.1= .row T n k ys true∧p.2= .row T n k ys false:=by
 induction cs with
 |nil=>exact .inl h
 |cons c r ih=>
  unfold ownCells at h
  simp only at h
  split at h
  ·split at h
   ·rename_i hm
    obtain rfl:=Option.some.inj h
    exact .inr ⟨_,_,_,_,hm,rfl⟩
   ·exact ih h
  ·exact ih h
noncomputable def ownArg (env:Env) (mem:Mem) (xs:List Operand):Option (Nat×Ob):=
 @List.rec Operand (fun _=>Option (Nat×Ob)) none (fun x _ r=>match opd env x with
  | .val (.one (.row o _))=>match mem o with
   | .row T n v ys true=>some (o,.row T n v ys false)
   |_=>r
  | .val (.agg cs)=>ownCells mem r cs
  |_=>r) xs
theorem ZfV {xs:List Operand} {p:Nat×Ob} (h:ownArg env mem xs=some p):∃ T n k ys,mem p.1= .row T n k ys true∧p.2= .row T n k ys false:=by
 induction xs with
 |nil=>simp [ownArg] at h
 |cons x r ih=>
  unfold ownArg at h
  simp only at h
  split at h
  ·split at h
   ·rename_i hm
    obtain rfl:=Option.some.inj h
    exact⟨_,_,_,_,hm,rfl⟩
   ·exact ih h
  ·rcases Zg8 h with h|h
   ·exact ih h
   ·exact h
  ·exact ih h
def toF (id:Nat) (ob:Ob):Plan→Plan
 | .askN _ Φ=> .askF id ob Φ
 |_=> .bad
noncomputable def planCallG (P:Program) (G:World→Prop) (env:Env) (mem:Mem) (dst:Option Nat) (f:Operand) (xs:List Operand):Plan:=
 match ownArg env mem xs with
 |none=>planCallF false P G env mem dst f xs
 |some p=>toF p.1 p.2 (planCallF false P G env (upd mem p.1 p.2) none f xs)
theorem ZgS (hG:G w) (st:St w0 I0 nt env mem bs a w) (hE:∀ t,env' t= .junk∨env' t=env t) (hM:∀ o,mem' o= .gone∨mem' o=mem o)
  (o:Oper) (dst:Option Nat) (f:Operand) (xs:List Operand) (ts:Array TypeId) (ho:o.op= .call { callee:= .value f,args:=⟨xs⟩,argTypes:=ts }) (hD:∀ d,dst=some d→mem' d=mem d):SoundPlan P w0 I0 nt env mem a w o (planCallG P G env' mem' dst f xs):=by
 unfold planCallG
 split
 ·exact Zao false hG st hE hM o dst f xs ts ho hD
 ·rename_i p hp
  obtain⟨T,n,k,ys,h1,h2⟩:=ZfV hp
  have hm:mem p.1= .row T n k ys true:=by
   rcases hM p.1 with h|h
   ·rw [h] at h1;simp at h1
   ·rw [← h];exact h1
  rw [h2]
  have st1:=st.freeze p.1 hm
  have h:=Zao false (P:=P) (mem':=upd mem' p.1 (.row T n k ys false)) hG st1 hE (fun i=>by
   by_cases e:i=p.1
   ·subst e;rw [Zd,Zd];exact .inr rfl
   ·rw [ZG _ _ e,ZG _ _ e];exact hM i) o none f xs ts ho (fun d hd=>by simp at hd)
  cases hq:planCallF false P G env' (upd mem' p.1 (.row T n k ys false)) none f xs with
  |askN d Φ=>rw [hq] at h;exact h.1
  |_=>trivial
theorem Zev {I I':Nat→Prop} {w':World} {x:Value} {T n:Nat} {xs:List (List D)} (hf:Fresh w I w' x T n xs) (hv:∀ r,r∈xs→∀ d,d∈r→∃ v,d= .v v):Fresh w I' w' x T n xs:=by
 obtain⟨ys,h1,h2,h3,h4,h5⟩:=hf
 refine⟨ys,h1,h2,h3,h4,fun i j r d hr hd=> ?_⟩
 obtain⟨y,hy,hd'⟩:=h5 i j r d hr hd
 obtain⟨v,rfl⟩:=hv r (List.mem_of_getElem? hr) d (List.mem_of_getElem? hd)
 refine⟨y,hy,?_⟩
 cases hd' with
 |v _ hx=>exact .v _ hx
def planCallB (P:Program) (G:World→Prop) (env:Env) (mem:Mem) (dst:Option Nat) (f:Operand) (xs:List Operand):Plan:=
 match opd env f,xs with
 | .val (.one (.d (.v (.func (.func g) first cap)))), [x]=>match first.toList,cap.toList,opd env x with
  | [], [],.val (.one (.row o k))=>match mem o with
   | .row _ _ k' ys true=>bif Nat.beq k k' then .askN (roomOf mem dst) (fun r=>∃ T n zs,r= .new T n zs∧SpecR P G g [.val (.one (.d (.list ys)))] T n zs∧∀ r,r∈zs→∀ d,d∈r→∃ v,d= .v v) else .bad
   |_=> .bad
  |_,_,_=> .bad
 |_,_=> .bad
theorem ZgT (hG:G w) (st:St w0 I0 nt env mem bs a w) (hE:∀ t,env' t= .junk∨env' t=env t) (hM:∀ o,mem' o= .gone∨mem' o=mem o)
  (o:Oper) (dst:Option Nat) (f:Operand) (xs:List Operand) (ts:Array TypeId) (ho:o.op= .call { callee:= .value f,args:=⟨xs⟩,argTypes:=ts }) (hD:∀ d,dst=some d→mem' d=mem d):SoundPlan P w0 I0 nt env mem a w o (planCallB P G env' mem' dst f xs):=by
 obtain⟨h1,_⟩:=Zb st hE f
 unfold planCallB
 split
 ·rename_i g first cap x hf
  rw [hf] at h1
  have ef:=Zg h1
  split
  ·rename_i q k e1 e2 e3
   have e1':first=#[]:=by cases first;simpa using e1
   have e2':cap=#[]:=by cases cap;simpa using e2
   subst e1' e2'
   split
   ·rename_i T' n' k' ys hm
    have hm1:mem q= .row T' n' k' ys true:=by
     rcases hM q with h|h
     ·rw [h] at hm;simp at hm
     ·rw [← h];exact hm
    cases hk:Nat.beq k k' with
    |false=>trivial
    |true=>
     obtain rfl:=Nat.eq_of_beq_eq_true hk
     obtain⟨g1,_⟩:=Zb st hE x
     rw [e3] at g1
     have ex1:a.eval x=bs q:=g1.2 _ _ _ _ hm1
     have st1:=st.freeze q hm1
     have hob:=st1.obs q
     rw [Zd] at hob
     have hob:Den w (Stay w0 I0 (upd mem q (.row T' n' k ys false)) bs w) (bs q) (.list ys):=hob
     simp only [cond_true]
     refine⟨fun r hn h=>by obtain⟨T,n,zs,rfl,_⟩:=h;simp [AV.isNew] at hn,fun d hd T n zs h=> ?_⟩
     obtain⟨T2,n2,zs2,heq,hspec,hflat⟩:=h
     obtain⟨rfl,rfl,rfl⟩:T=T2∧n=n2∧zs=zs2:=by simpa using heq
     have hgone:mem d= .gone:=by
      unfold roomOf at hd
      split at hd
      ·rename_i d'
       split at hd
       ·rename_i hg
        obtain rfl:=Option.some.inj hd
        rw [← hD d' rfl];exact hg
       ·simp at hd
      ·simp at hd
     have hc:=hspec.2 w (Stay w0 I0 (upd mem q (.row T' n' k ys false)) bs w) [bs q] hG (fun b hb=>by
      rcases hb with ⟨_,h⟩|⟨_,h,_⟩
      ·exact st.ltK h
      ·exact h) (Rel2.cons hob Rel2.nil)
     refine ZK (f:=g) (args:= [bs q].toArray) (w':=w) ?_ ?_
     ·have hrun:=hspec.1 [bs q].toArray w
      simp only [execOp,ho,resolve,ef,Deferred.ofValue,Sem.run_bind,Sem.run_pure,Result.andThen_ok,invoke]
      simpa [ex1] using hrun
     ·refine Calls.mono hc fun e w' ⟨x,he,hf,hb⟩=>⟨x,he,?_⟩
      exact Zca st hgone (Zev hf hflat) hb
   ·trivial
  ·trivial
 ·trivial
def toR (id:Nat) (ob:Ob):Plan→Plan
 | .ret v=> .put v id ob
 |_=> .bad
noncomputable def planBuildSliceF (TB:List (Nat×Ty)) (env:Env) (mem:Mem) (T:TypeId) (n:Nat) (parts:List (Nat×Operand)):Plan:=
 match ownArg env mem (parts.map (·.2)) with
 |none=>planBuildSlice TB env mem T n parts
 |some p=>toR p.1 p.2 (planBuildSlice TB env (upd mem p.1 p.2) T n parts)
theorem ZcG {TB:List (Nat×Ty)} (hTB:TBok P TB) (st:St w0 I0 nt env mem bs a w) (hE:∀ t,env' t= .junk∨env' t=env t) (hM:∀ o,mem' o= .gone∨mem' o=mem o)
  (o:Oper) (T:TypeId) (n:Nat) (parts:Array (Nat×Operand)) (ho:o.op= .buildSlice T n parts):SoundPlan P w0 I0 nt env mem a w o (planBuildSliceF TB env' mem' T n parts.toList):=by
 unfold planBuildSliceF
 split
 ·exact Zbm hTB st hE hM o T n parts ho
 ·rename_i p hp
  obtain⟨T1,n1,k,ys,h1,h2⟩:=ZfV hp
  have hm:mem p.1= .row T1 n1 k ys true:=by
   rcases hM p.1 with h|h
   ·rw [h] at h1;simp at h1
   ·rw [← h];exact h1
  rw [h2]
  have st1:=st.freeze p.1 hm
  have h:=Zbm (P:=P) (mem':=upd mem' p.1 (.row T1 n1 k ys false)) hTB st1 hE (fun i=>by
   by_cases e:i=p.1
   ·subst e;rw [Zd,Zd];exact .inr rfl
   ·rw [ZG _ _ e,ZG _ _ e];exact hM i) o T n parts ho
  cases hq:planBuildSlice TB env' (upd mem' p.1 (.row T1 n1 k ys false)) T n parts.toList with
  |ret v=>rw [hq] at h;exact h
  |_=>trivial
def planAssignF (env:Env) (mem:Mem) (x:Operand):Plan:=
 match opd env x with
 | .val (.one (.row o k))=>match mem o with
  | .row T n k' xs true=>bif Nat.beq k k' then .put (.val (.one (.d (.list xs)))) o (.row T n k xs false) else .bad
  |_=> .bad
 |v=> .ret v
theorem ZeP (st:St w0 I0 nt env mem bs a w) (hE:∀ t,env' t= .junk∨env' t=env t) (hM:∀ o,mem' o= .gone∨mem' o=mem o) (o:Oper) (x:Operand) (ho:o.op= .assign x):SoundPlan P w0 I0 nt env mem a w o (planAssignF env' mem' x):=by
 obtain⟨g1,_⟩:=Zb st hE x
 unfold planAssignF
 split
 ·rename_i q k hx
  rw [hx] at g1
  split
  ·rename_i T n k' xs hm
   cases hk:Nat.beq k k' with
   |false=>trivial
   |true=>
    obtain rfl:=Nat.eq_of_beq_eq_true hk
    have hm1:mem q= .row T n k xs true:=by
     rcases hM q with h|h
     ·rw [h] at hm;simp at hm
     ·rw [← h];exact hm
    have ex1:a.eval x=bs q:=g1.2 _ _ _ _ hm1
    have st1:=st.freeze q hm1
    have hob:=st1.obs q
    rw [Zd] at hob
    have hob:Den w (Stay w0 I0 (upd mem q (.row T n k xs false)) bs w) (bs q) (.list xs):=hob
    simp only [cond_true]
    refine Za (a.eval x) ?_ (Zc st1 (v:= .val (.one (.d (.list xs)))) (by rw [ex1];exact hob) (fun p hp=>by simp [AV.hs,S.hs,C.hs] at hp))
    simp [execOp,ho]
  ·trivial
 ·exact ZcF st hE o x (.inr ho)
def frzO (o:Nat) (mem:Mem):Mem:=match mem o with
 | .row T n k xs true=>upd mem o (.row T n k xs false)
 |_=>mem
theorem St.frzO (st:St w0 I0 nt env mem bs a w) (o:Nat):St w0 I0 nt env (frzO o mem) bs a w:=by
 unfold eng.frzO
 split
 ·rename_i hm;exact st.freeze o hm
 ·exact st
def frzC (c:C) (mem:Mem):Mem:=match c with
 | .row o _=>frzO o mem
 |_=>mem
theorem St.frzC (st:St w0 I0 nt env mem bs a w) (c:C):St w0 I0 nt env (frzC c mem) bs a w:=by
 unfold eng.frzC
 split
 ·exact st.frzO _
 ·exact st
def frzCs:List C→Mem→Mem
 | [],mem=>mem
 |c :: r,mem=>frzCs r (frzC c mem)
theorem St.frzCs:∀ (cs:List C) {mem:Mem},St w0 I0 nt env mem bs a w→St w0 I0 nt env (frzCs cs mem) bs a w
 | [],_,st=>st
 |c :: r,_,st=>St.frzCs r (st.frzC c)
def frzR (env:Env):List ResultVar→Mem→Mem
 | [],mem=>mem
 | .tmp t :: r,mem=>frzR env r (match env t with
  | .val (.one c)=>frzC c mem
  | .val (.agg cs)=>frzCs cs mem
  |_=>mem)
 | .cell t _ :: r,mem=>frzR env r (match env t with
  | .val (.one (.ptr b _))=>match mem b with
   | .var _ cs=>frzCs cs mem
   |_=>mem
  |_=>mem)
theorem St.frzR:∀ (rs:List ResultVar) {mem:Mem},St w0 I0 nt env mem bs a w→St w0 I0 nt env (frzR env rs mem) bs a w
 | [],_,st=>st
 | .tmp t :: r,_,st=>by
  unfold eng.frzR
  refine St.frzR r ?_
  split
  ·exact st.frzC _
  ·exact St.frzCs _ st
  ·exact st
 | .cell t T :: r,_,st=>by
  unfold eng.frzR
  refine St.frzR r ?_
  split
  ·split
   ·exact St.frzCs _ st
   ·exact st
  ·exact st
end
section
variable {P : Program} {G : World → Prop} {w0 : Base} {I0 : Nat → Prop} {nt : Shape} {env env' : Env} {mem mem' : Mem} {bs : Bs} {a : Act} {w : World}
def planSliceS (P:Program) (TB:List (Nat×Ty)) (env:Env) (mem:Mem) (T:TypeId) (x:Operand) (lo hi mx:Option Operand):Plan:=
 match opd env x with
 | .val (.one (.d (.v (.string s))))=>match lo,hi,mx with
  |some l,none,none=>valK (opd env l) (fun lv=> .ask fun r=>∃ v,r=one (.string v)∧∀ w,(Instr.sliceAt T (.string s) (some lv) none none).run P w= .ok (.string v) w) .bad
  |none,some h,none=>valK (opd env h) (fun hv=> .ask fun r=>∃ v,r=one (.string v)∧∀ w,(Instr.sliceAt T (.string s) none (some hv) none).run P w= .ok (.string v) w) .bad
  |_,_,_=> .bad
 |_=>planSliceK TB env mem T x lo hi mx
theorem ZfC {TB:List (Nat×Ty)} (hTB:TBok P TB) (st:St w0 I0 nt env mem bs a w) (hE:∀ t,env' t= .junk∨env' t=env t) (hM:∀ o,mem' o= .gone∨mem' o=mem o)
  (o:Oper) (T:TypeId) (x:Operand) (lo hi mx:Option Operand) (ho:o.op= .slice T x lo hi mx):SoundPlan P w0 I0 nt env mem a w o (planSliceS P TB env' mem' T x lo hi mx):=by
 have base:=ZfD hTB st hE hM o T x lo hi mx ho
 unfold planSliceS
 split
 ·rename_i s hs
  obtain⟨h1,_⟩:=Zb st hE x
  rw [hs] at h1
  have ex:=Zg h1
  split
  ·rename_i l
   obtain⟨g1,_⟩:=Zb st hE l
   rcases ZaI (opd env' l) (fun lv=>Plan.ask fun r=>∃ v,r=one (.string v)∧∀ w,(Instr.sliceAt T (.string s) (some lv) none none).run P w= .ok (.string v) w) Plan.bad with ⟨lv,e1,f1⟩|e1
   ·rw [e1]
    intro r ⟨v,hr,hrun⟩
    subst hr
    have el:=f1 _ _ _ _ _ g1
    refine Za (.string v) ?_ (Zc st (Den.v _ rfl) (fun p hp=>by simp [one,AV.hs,S.hs,C.hs] at hp))
    simp only [execOp,ho,ex,el,Option.map_some,Option.map_none,Sem.run_bind,hrun,Result.andThen_ok,Sem.run_pure]
   ·rw [e1];trivial
  ·rename_i l
   obtain⟨g1,_⟩:=Zb st hE l
   rcases ZaI (opd env' l) (fun lv=>Plan.ask fun r=>∃ v,r=one (.string v)∧∀ w,(Instr.sliceAt T (.string s) none (some lv) none).run P w= .ok (.string v) w) Plan.bad with ⟨lv,e1,f1⟩|e1
   ·rw [e1]
    intro r ⟨v,hr,hrun⟩
    subst hr
    have el:=f1 _ _ _ _ _ g1
    refine Za (.string v) ?_ (Zc st (Den.v _ rfl) (fun p hp=>by simp [one,AV.hs,S.hs,C.hs] at hp))
    simp only [execOp,ho,ex,el,Option.map_some,Option.map_none,Sem.run_bind,hrun,Result.andThen_ok,Sem.run_pure]
   ·rw [e1];trivial
  ·trivial
 ·exact base
def planMakeIface (P:Program) (env:Env) (mem:Mem) (T:TypeId) (x:Operand):Plan:=
 match opd env x with
 | .val (.agg cs)=>dsK mem cs (fun ds=> .ask fun r=>r= .val (.one (.d (.iface T ds)))∧∀ w v,(Instr.makeInterface T v).run P w= .ok (.iface T v) w) .bad
 |_=> .bad
theorem Zdu (st:St w0 I0 nt env mem bs a w) (hE:∀ t,env' t= .junk∨env' t=env t) (hM:∀ o,mem' o= .gone∨mem' o=mem o)
  (o:Oper) (T:TypeId) (x:Operand) (ho:o.op= .makeInterface T x):SoundPlan P w0 I0 nt env mem a w o (planMakeIface P env' mem' T x):=by
 unfold planMakeIface
 split
 ·rename_i cs hx
  obtain⟨h1,_⟩:=Zb st hE x
  rw [hx] at h1
  obtain⟨l,ex,hl,hr⟩:=h1
  rcases ZbM st hM cs (fun ds=>Plan.ask fun r=>r= .val (.one (.d (.iface T ds)))∧∀ w v,(Instr.makeInterface T v).run P w= .ok (.iface T v) w) Plan.bad with ⟨ds,e1,f1⟩|e1
  ·rw [e1]
   intro r ⟨hr',hrun⟩
   subst hr'
   have hd:=f1 l ⟨hl,hr⟩
   refine Za (.iface T (.agg l.toArray)) ?_ (Zc st (Den.iface T l ds hd.1 hd.2) (fun p hp=>by simp [AV.hs,S.hs,C.hs] at hp))
   simp only [execOp,ho,ex,Sem.run_bind,hrun,Result.andThen_ok,Sem.run_pure]
  ·rw [e1];trivial
 ·trivial
def MethodIs (P:Program) (T:TypeId) (name:String) (g:FuncId):Prop:=
 ∀ (w:World) (v:Value),(method (P.types.size+Made.depth) T v name).run P w= .ok (g,v) w
def planInvoke (P:Program) (G:World→Prop) (env:Env) (mem:Mem) (recv:Operand) (name:String) (xs:List Operand):Plan:=
 match opd env recv with
 | .val (.one (.d (.iface T ds)))=>argAVs false mem env xs (fun as=> .ask fun r=>r.isNew=false∧∃ g,MethodIs P T name g∧CallR P G g (.val (.agg (ds.map C.d)) :: as) r) .bad
 |_=> .bad
theorem ZfG (hG:G w) (st:St w0 I0 nt env mem bs a w) (hE:∀ t,env' t= .junk∨env' t=env t) (hM:∀ o,mem' o= .gone∨mem' o=mem o)
  (o:Oper) (recv:Operand) (name:String) (xs:List Operand) (ts:Array TypeId) (ho:o.op= .call { callee:= .invoke recv name,args:=⟨xs⟩,argTypes:=ts }):SoundPlan P w0 I0 nt env mem a w o (planInvoke P G env' mem' recv name xs):=by
 obtain⟨h1,_⟩:=Zb st hE recv
 unfold planInvoke
 split
 ·rename_i T ds hf
  rw [hf] at h1
  have h1':Den w (Stay w0 I0 mem bs w) (a.eval recv) (.iface T ds):=h1
  rcases Zag false st hE hM xs (fun as=>Plan.ask fun r=>r.isNew=false∧∃ g,MethodIs P T name g∧CallR P G g (.val (.agg (ds.map C.d)) :: as) r) Plan.bad with ⟨l,e,hl⟩|e
  ·rw [e]
   intro r ⟨hn,g,hm,hcall⟩
   obtain⟨hr,hspec⟩:=Ziw hcall hn
   generalize hrv:a.eval recv=rv at h1'
   cases h1' with
   |iface _ vl _ hvl hvd=>
    have hrel:Rel2 (fun y v=>DenAV w (Stay w0 I0 mem bs w) noBs noMem y v) (.agg vl.toArray :: xs.map a.eval) (.val (.agg (ds.map C.d)) :: l):=by
     refine(hl noBs noMem).cons ⟨vl,rfl,by simp [hvl],fun j c y hc hy=> ?_⟩
     rw [List.getElem?_map] at hc
     cases hq:ds[j]? with
     |none=>rw [hq] at hc;simp at hc
     |some d=>
      rw [hq] at hc
      obtain rfl:=Option.some.inj hc
      exact hvd j d y hq hy
    have hc:=hspec.2 w (Stay w0 I0 mem bs w) (.agg vl.toArray :: xs.map a.eval) hG (fun b hb=>by
     rcases hb with ⟨_,h⟩|⟨_,h,_⟩
     ·exact st.ltK h
     ·exact h) hrel
    refine ZK (f:=g) (args:=(.agg vl.toArray :: xs.map a.eval).toArray) (w':=w) ?_ ?_
    ·have hrun:=hspec.1 (.agg vl.toArray :: xs.map a.eval).toArray w
     have hmm:=hm w (.agg vl.toArray)
     have e1:(#[Value.iface T (.agg vl.toArray)]++(Array.map a.eval ⟨xs⟩)).extract 1 (#[Value.iface T (.agg vl.toArray)]++(Array.map a.eval ⟨xs⟩)).size=(xs.map a.eval).toArray:=by
      apply Array.toList_inj.1
      simp
      exact List.take_of_length_le (by simp)
     have e2:(#[Value.agg vl.toArray]++(xs.map a.eval).toArray)=(.agg vl.toArray :: xs.map a.eval).toArray:=by
      apply Array.toList_inj.1
      simp
     have e3:(#[Value.iface T (.agg vl.toArray)]++(Array.map a.eval ⟨xs⟩))[0]? =some (Value.iface T (.agg vl.toArray)):=by simp
     simp only [execOp,ho,resolve,hrv,Sem.run_bind,Sem.run_pure,Result.andThen_ok,invoke,e3,e1,callMethod,run_program,hmm,e2]
     exact hrun
    ·refine Calls.mono hc fun e w' ⟨x,he,hd,hb⟩=>⟨x,he,?_⟩
     obtain⟨K,st'⟩:=st.grow hb
     refine⟨bs,st',?_,fun p hp=>by rw [hr] at hp;simp at hp⟩
     have K2:Keeps w' (fun b=>Stay w0 I0 mem bs w b∨(w.heap.size≤b∧b< w'.heap.size)) noBs noMem w' (Stay w0 I0 mem bs w') bs mem (fun _=>False):=
      ⟨fun b hbb=>⟨Zbs hb st b hbb,rfl⟩,fun _ _ h=>h.elim,fun _ _ _ _ _ _ h=>h.elim,fun _ _ _ _ _ _ _ _ _ _ _ _ _ h=>h.elim⟩
     exact K2.av (fun p hp=>by rw [hr] at hp;simp at hp) hd
  ·rw [e];trivial
 ·trivial
def planBinI (P:Program) (env:Env) (op:BinOp) (T:TypeId) (x y:Operand):Plan:=
 match opd env x,opd env y with
 | .val (.one (.d (.iface t _))),.val (.one (.d (.v .nilIface)))=> .ask fun r=>∃ b:Bool,r=one (.bool b)∧∀ w l,(do eqGuard op T x y (.iface t (.agg l)) .nilIface;binOp op T (.iface t (.agg l)) .nilIface:Sem Value).run P w= .ok (.bool b) w
 |_,_=>planBin P env op T x y
theorem ZiU (st:St w0 I0 nt env mem bs a w) (hE:∀ t,env' t= .junk∨env' t=env t) (o:Oper) (op:BinOp) (T yT:TypeId) (x y:Operand) (ho:o.op= .binOp op T x y yT):SoundPlan P w0 I0 nt env mem a w o (planBinI P env' op T x y):=by
 have base:=Zj9 (P:=P) st hE o op T yT x y ho
 obtain⟨h1,_⟩:=Zb st hE x
 obtain⟨g1,_⟩:=Zb st hE y
 unfold planBinI
 split
 ·rename_i t ds e1 e2
  rw [e1] at h1
  rw [e2] at g1
  have ey:=Zg g1
  have h1':Den w (Stay w0 I0 mem bs w) (a.eval x) (.iface t ds):=h1
  intro r ⟨b,hr,hrun⟩
  subst hr
  generalize hrv:a.eval x=rv at h1'
  cases h1' with
  |iface _ vl _ hvl hvd=>
   refine Za (.bool b) ?_ (Zc st (Den.v _ rfl) (fun p hp=>by simp [one,AV.hs,S.hs,C.hs] at hp))
   have:=hrun w vl.toArray
   simp only [execOp,ho,hrv,ey]
   simp only [Sem.run_bind,Sem.run_pure] at this ⊢
   rw [this]
   rfl
 ·exact base
def planBinR (P:Program) (env:Env) (mem:Mem) (op:BinOp) (T:TypeId) (x y:Operand):Plan:=
 match opd env x,opd env y with
 | .val (.one (.row o k)),.val (.one (.d (.v (.slice none 0 0))))=>match mem o with
  | .row _ _ k' xs true=>bif Nat.beq k k' then (match op with
   | .eql=> .ask fun r=>(∃ e,P.underlying T=some (.slice e))∧xs≠ []∧r=one (.bool false)
   | .neq=> .ask fun r=>(∃ e,P.underlying T=some (.slice e))∧xs≠ []∧r=one (.bool true)
   |_=> .bad) else .bad
  |_=> .bad
 |_,_=>planBinI P env op T x y
theorem ZiT (st:St w0 I0 nt env mem bs a w) (hE:∀ t,env' t= .junk∨env' t=env t) (hM:∀ o,mem' o= .gone∨mem' o=mem o) (o:Oper) (op:BinOp) (T yT:TypeId) (x y:Operand) (ho:o.op= .binOp op T x y yT):SoundPlan P w0 I0 nt env mem a w o (planBinR P env' mem' op T x y):=by
 have base:=ZiU (P:=P) st hE o op T yT x y ho
 obtain⟨h1,_⟩:=Zb st hE x
 obtain⟨g1,_⟩:=Zb st hE y
 unfold planBinR
 split
 ·rename_i q k e1 e2
  rw [e1] at h1
  rw [e2] at g1
  have ey:=Zg g1
  split
  ·rename_i T' n k' xs hm
   have hm1:mem q= .row T' n k' xs true:=by
    rcases hM q with h|h
    ·rw [h] at hm;simp at hm
    ·rw [← h];exact hm
   cases hk:Nat.beq k k' with
   |false=>trivial
   |true=>
    obtain rfl:=Nat.eq_of_beq_eq_true hk
    have hob:=st.obs q
    rw [hm1] at hob
    obtain⟨ys,hown,_⟩:=hob
    have ex1:a.eval x=bs q:=h1.2 _ _ _ _ hm1
    have hs:xs≠ []→∃ g cap,a.eval x= .slice (some ⟨g,0,none⟩) xs.length cap:=fun hne=>by
     rcases hown.2 with ⟨_,h0⟩|⟨g,cap,_,hv,_⟩
     ·exact absurd (List.eq_nil_of_length_eq_zero h0) hne
     ·exact⟨g,cap,ex1.trans hv⟩
    simp only [cond_true]
    split
    ·intro r ⟨⟨e,hT⟩,hne,hr⟩
     subst hr
     obtain⟨b,cap,ex⟩:=hs hne
     refine Za _ ?_ (Zc st (Den.v _ rfl) (fun p hp=>by simp [one,AV.hs,S.hs,C.hs] at hp))
     simp [execOp,ho,ex,ey,eqGuard,binOp,run_equal_slice_nil w T e _ _ _ hT]
    ·intro r ⟨⟨e,hT⟩,hne,hr⟩
     subst hr
     obtain⟨b,cap,ex⟩:=hs hne
     refine Za _ ?_ (Zc st (Den.v _ rfl) (fun p hp=>by simp [one,AV.hs,S.hs,C.hs] at hp))
     simp [execOp,ho,ex,ey,eqGuard,binOp,run_equal_slice_nil w T e _ _ _ hT]
    ·trivial
  ·trivial
 ·exact base
def planNilCheck (env:Env) (x:Operand):Plan:=
 match opd env x with
 | .val (.one (.ref cs))=> .ret (.val (.one (.ref cs)))
 | .val (.one (.ptr o i))=> .ret (.val (.one (.ptr o i)))
 |_=> .bad
theorem Zd0 (st:St w0 I0 nt env mem bs a w) (hE:∀ t,env' t= .junk∨env' t=env t) (o:Oper) (x:Operand) (ho:o.op= .nilCheck x):SoundPlan P w0 I0 nt env mem a w o (planNilCheck env' x):=by
 obtain⟨h1,h1h⟩:=Zb st hE x
 unfold planNilCheck
 split
 ·rename_i cs hx
  rw [hx] at h1
  have h2:=h1
  obtain⟨b,off,_,ex,_⟩:=h2
  refine Za (a.eval x) ?_ (Zc st h1 (fun p hp=>by simp [AV.hs,S.hs,C.hs] at hp))
  simp [execOp,ho,ex]
 ·rename_i q i hx
  rw [hx] at h1 h1h
  have h2:=h1
  obtain⟨b,_,ex⟩:=h2
  refine Za (a.eval x) ?_ (Zc st h1 h1h)
  simp [execOp,ho,ex]
 ·trivial
def refsK {β:Type} (env:Env):List Operand→(List (List D)→β)→β→β
 | [],k,_=>k []
 |x :: r,k,bad=>match opd env x with
  | .val (.one (.ref cs))=>refsK env r (fun l=>k (cs :: l)) bad
  |_=>bad
theorem Zej {β:Type} (st:St w0 I0 nt env mem bs a w) (hE:∀ t,env' t= .junk∨env' t=env t):∀ (xs:List Operand) (k:List (List D)→β) (bad:β),
  (∃ css,refsK env' xs k bad=k css∧Rel2 (fun y cs=>DenC w (Stay w0 I0 mem bs w) bs mem y (.ref cs)) (xs.map a.eval) css)∨refsK env' xs k bad=bad
 | [],k,bad=> .inl ⟨[],rfl,Rel2.nil⟩
 |x :: r,k,bad=>by
  obtain⟨h1,_⟩:=Zb st hE x
  unfold refsK
  split
  ·rename_i cs hx
   rw [hx] at h1
   rcases Zej st hE r (fun l=>k (cs :: l)) bad with ⟨css,e,h2⟩|e
   ·exact .inl ⟨cs :: css,e,h2.cons h1⟩
   ·exact .inr e
  ·exact .inr rfl
theorem ZpJ {I:Nat→Prop}:∀ {ys:List Value} {caps:List (List D)},Rel2 (fun y cs=>DenC w I bs mem y (.ref cs)) ys caps→
  ∃ (pb po:Nat→Nat) (c:Nat→Nat→Value),ys=(List.range caps.length).map (fun i=>Value.pointer (some ⟨pb i,po i,none⟩))∧(∀ i,i< caps.length→I (pb i))∧
   (∀ (i j:Nat) (r:List D),caps[i]? =some r→j< r.length→w.cell? ⟨pb i,po i+j,none⟩=some (c i j))∧∀ (i j:Nat) (r:List D) (d:D),caps[i]? =some r→r[j]? =some d→Den w I (c i j) d:=by
 intro ys caps h
 have hv:∀ i,∃ (b off:Nat) (c:Nat→Value),i< caps.length→(ys[i]? =some (.pointer (some ⟨b,off,none⟩))∧I b∧∀ (r:List D),caps[i]? =some r→(∀ j,j< r.length→w.cell? ⟨b,off+j,none⟩=some (c j))∧∀ (j:Nat) (d:D),r[j]? =some d→Den w I (c j) d):=by
  intro i
  by_cases hi:i< caps.length
  ·obtain⟨y,hy,b,off,hb,rfl,hcs⟩:=h.get (List.getElem?_eq_getElem hi)
   refine⟨b,off,fun j=>(w.cell? ⟨b,off+j,none⟩).getD undef,fun _=>⟨hy,hb,fun r hr=> ?_⟩⟩
   rw [List.getElem?_eq_getElem hi] at hr
   obtain rfl:=Option.some.inj hr
   refine⟨fun j hj=> ?_,fun j d hd=> ?_⟩
   ·obtain⟨z,hz,_⟩:=hcs j _ (List.getElem?_eq_getElem hj)
    show w.cell? _=some ((w.cell? ⟨b,off+j,none⟩).getD undef)
    rw [hz];rfl
   ·obtain⟨z,hz,hd'⟩:=hcs j d hd
    show Den w I ((w.cell? ⟨b,off+j,none⟩).getD undef) d
    rw [hz];exact hd'
  ·exact⟨0,0,fun _=>undef,fun h=>absurd h hi⟩
 refine⟨fun i=>(hv i).choose,fun i=>(hv i).choose_spec.choose,fun i=>(hv i).choose_spec.choose_spec.choose,?_,fun i hi=> ?_,fun i j r hr hj=> ?_,fun i j r d hr hd=> ?_⟩
 ·refine List.ext_getElem? fun i=> ?_
  by_cases hi:i< caps.length
  ·rw [List.getElem?_map,List.getElem?_range hi]
   exact((hv i).choose_spec.choose_spec.choose_spec hi).1
  ·rw [List.getElem?_eq_none (by rw [h.1];omega),List.getElem?_eq_none (by simp;omega)]
 ·exact((hv i).choose_spec.choose_spec.choose_spec hi).2.1
 ·exact(((hv i).choose_spec.choose_spec.choose_spec (List.getElem?_eq_some_iff.1 hr).1).2.2 r hr).1 j hj
 ·exact(((hv i).choose_spec.choose_spec.choose_spec (List.getElem?_eq_some_iff.1 hr).1).2.2 r hr).2 j d hd
def argV {β:Type} (env:Env):List Operand→(List Value→β)→β→β
 | [],k,_=>k []
 |x :: r,k,bad=>match opd env x with
  | .val (.one (.d (.v y)))=>argV env r (fun l=>k (y :: l)) bad
  |_=>bad
theorem ZeD {β:Type} (st:St w0 I0 nt env mem bs a w) (hE:∀ t,env' t= .junk∨env' t=env t):∀ (xs:List Operand) (k:List Value→β) (bad:β),argV env' xs k bad=k (xs.map a.eval)∨argV env' xs k bad=bad
 | [],k,bad=> .inl rfl
 |x :: r,k,bad=>by
  obtain⟨h1,_⟩:=Zb st hE x
  unfold argV
  split
  ·rename_i y hx
   rw [hx] at h1
   rcases ZeD st hE r (fun l=>k (y :: l)) bad with e|e
   ·exact .inl (by rw [e,← Zg h1];rfl)
   ·exact .inr e
  ·exact .inr rfl
def planCallX (P:Program) (env:Env) (f:Operand) (xs:List Operand):Plan:=
 match opd env f with
 | .val (.one (.d (.v (.func (.func g) first cap))))=>match first.toList,cap.toList with
  | [], []=>argV env xs (fun vs=> .ask (fun r=>∃ x,flat x=true∧r=one x∧∀ w,(callFunc g vs.toArray).run P w= .ok (.value x) w)) .bad
  |_,_=> .bad
 |_=> .bad
theorem ZgL (st:St w0 I0 nt env mem bs a w) (hE:∀ t,env' t= .junk∨env' t=env t)
  (o:Oper) (f:Operand) (xs:List Operand) (ts:Array TypeId) (ho:o.op= .call { callee:= .value f,args:=⟨xs⟩,argTypes:=ts }):SoundPlan P w0 I0 nt env mem a w o (planCallX P env' f xs):=by
 obtain⟨h1,_⟩:=Zb st hE f
 unfold planCallX
 split
 ·rename_i g first cap hf
  rw [hf] at h1
  have ef:=Zg h1
  split
  ·rename_i e1 e2
   have e1':first=#[]:=by cases first;simpa using e1
   have e2':cap=#[]:=by cases cap;simpa using e2
   subst e1' e2'
   rcases ZeD st hE xs (fun vs=>Plan.ask (fun r=>∃ x,flat x=true∧r=one x∧∀ w,(callFunc g vs.toArray).run P w= .ok (.value x) w)) Plan.bad with e|e
   ·rw [e]
    rintro r ⟨x,hx,rfl,hrun⟩
    refine Za x ?_ (Zc st (Den.v x hx) (fun p hp=>by simp [one,AV.hs,S.hs,C.hs] at hp))
    have hr:=hrun w
    simp only [execOp,ho,resolve,ef,Deferred.ofValue,Sem.run_bind,Sem.run_pure,Result.andThen_ok,invoke]
    simpa using hr
   ·rw [e];trivial
  ·trivial
 ·trivial
def planMakeFunc (env:Env) (fn:Fn) (first caps:List Operand):Plan:=
 match fn with
 | .func g=>match first with
  | []=>refsK env caps (fun css=> .ret (.val (.one (.d (.fn g css))))) .bad
  |_=> .bad
 |_=> .bad
theorem Zd1 (st:St w0 I0 nt env mem bs a w) (hE:∀ t,env' t= .junk∨env' t=env t) (o:Oper) (fn:Fn) (first caps:Array Operand) (ho:o.op= .makeFunc fn first caps):
  SoundPlan P w0 I0 nt env mem a w o (planMakeFunc env' fn first.toList caps.toList):=by
 unfold planMakeFunc
 split
 ·rename_i g
  split
  ·rename_i hf
   have hf':first=#[]:=by cases first;simpa using hf
   rcases Zej st hE caps.toList (fun css=>Plan.ret (.val (.one (.d (.fn g css))))) Plan.bad with ⟨css,e,hr⟩|e
   ·rw [e]
    obtain⟨pb,po,c,e1,h1,h2,h3⟩:=ZpJ (w:=w) (bs:=bs) (mem:=mem) hr
    refine Za (.func (.func g) #[] (caps.toList.map a.eval).toArray) ?_ (Zc st ?_ (fun p hp=>by simp [AV.hs,S.hs,C.hs] at hp))
    ·have e2:(caps.toList.map a.eval).toArray=caps.map a.eval:=by apply Array.toList_inj.1;simp
     rw [e2]
     simp [execOp,ho,hf',Instr.makeFunc]
    ·rw [e1];exact Den.fn g css pb po c h1 h2 h3
   ·rw [e];trivial
  ·trivial
 ·trivial
end
section
variable {P : Program} {G : World → Prop} {w0 : Base} {I0 : Nat → Prop} {nt : Shape} {env env' : Env} {mem mem' : Mem} {bs : Bs} {a : Act} {w : World}
def Base.less (w:World) (x:Value):Base:=⟨w,fun b=>b< w.heap.size∧¬ Blk x b,fun _ h=>h.1,fun _=>x⟩
def memT (T n:Nat) (xs:List (List D)):Mem:=fun o=>bif Nat.beq o 1000 then .row T n 0 xs true else .gone
def SpecT (P:Program) (G:World→Prop) (f:FuncId) (args:List AV) (T n:Nat) (xs:List (List D)) (T' n':Nat) (ys:List (List D)):Prop:=
 Enters P f∧∀ (w:World) (I:Nat→Prop) (vs:List Value) (x:Value),(∀ w',Bel (Base.less w x).K w w'→G w')→(∀ b,I b→b< w.heap.size∧¬ Blk x b)→
  ObOk (Base.less w x) w I noBs noMem x (.row T n 0 xs true)→Rel2 (fun y av=>DenAV w I (fun _=>x) (memT T n xs) y av) vs args→
  Calls P f vs.toArray w fun e w'=>∃ y,e= .returned y∧ObOk (Base.less w x) w' (fun b=>(I b∨(¬ (Base.less w x).K b∧b< w'.heap.size))∧¬ Blk y b) noBs noMem y (.row T' n' 0 ys true)∧Bel (Base.less w x).K w w'
def SpecL (P:Program) (G:World→Prop) (f:FuncId) (args:List AV) (T n:Nat) (xs:List (List D)) (r:AV):Prop:=
 Enters P f∧∀ (w:World) (I:Nat→Prop) (vs:List Value) (x:Value),(∀ w',Bel (Base.less w x).K w w'→G w')→(∀ b,I b→b< w.heap.size∧¬ Blk x b)→
  ObOk (Base.less w x) w I noBs noMem x (.row T n 0 xs true)→Rel2 (fun y av=>DenAV w I (fun _=>x) (memT T n xs) y av) vs args→
  Calls P f vs.toArray w fun e w'=>∃ y,e= .returned y∧DenAV w' (fun b=>(I b∨(¬ (Base.less w x).K b∧b< w'.heap.size))∧¬ Blk x b) noBs noMem y r∧
   ObOk (Base.less w x) w' (fun b=>(I b∨(¬ (Base.less w x).K b∧b< w'.heap.size))∧¬ Blk x b) noBs noMem x (.row T n 0 xs true)∧Bel (Base.less w x).K w w'
def argTs {β:Type} (env:Env) (mem:Mem) (d v:Nat):List Operand→(List AV→β)→β→β
 | [],k,_=>k []
 |x :: r,k,bad=>match opd env x with
  | .val (.one (.row o v'))=>bif Nat.beq o d&&Nat.beq v' v then argTs env mem d v r (fun l=>k (.val (.one (.row 1000 0)) :: l)) bad else bad
  |y=>argAVa true mem y (fun z=>argTs env mem d v r (fun l=>k (z :: l)) bad) bad
theorem ZaP {β:Type} (st:St w0 I0 nt env mem bs a w) (hE:∀ t,env' t= .junk∨env' t=env t) (hM:∀ o,mem' o= .gone∨mem' o=mem o) {d v T n:Nat} {xs:List (List D)} (hd:mem d= .row T n v xs true):∀ (l:List Operand) (k:List AV→β) (bad:β),
  (∃ as,argTs env' mem' d v l k bad=k as∧Rel2 (fun y av=>DenAV w (Stay w0 I0 mem bs w) (fun _=>bs d) (memT T n xs) y av) (l.map a.eval) as)∨argTs env' mem' d v l k bad=bad
 | [],k,bad=> .inl ⟨[],rfl,Rel2.nil⟩
 |x :: r,k,bad=>by
  obtain⟨h1,_⟩:=Zb st hE x
  unfold argTs
  split
  ·rename_i o v' hx
   rw [hx] at h1
   cases hc:(Nat.beq o d&&Nat.beq v' v) with
   |false=>exact .inr rfl
   |true=>
    simp only [Bool.and_eq_true] at hc
    obtain rfl:=Nat.eq_of_beq_eq_true hc.1
    obtain rfl:=Nat.eq_of_beq_eq_true hc.2
    simp only [cond_true]
    rcases ZaP st hE hM hd r (fun l=>k (.val (.one (.row 1000 0)) :: l)) bad with ⟨as,e,f2⟩|e
    ·refine .inl ⟨_,e,f2.cons ?_⟩
     have hv:a.eval x=bs o:=h1.2 _ _ _ _ hd
     exact⟨h1.1,fun T' n' xs' own' hm=>hv⟩
    ·exact .inr e
  ·rcases Za0 true st hM (opd env' x) (fun z=>argTs env' mem' d v r (fun l=>k (z :: l)) bad) bad with ⟨z,e,g1,g2⟩|e
   ·rcases ZaP st hE hM hd r (fun l=>k (z :: l)) bad with ⟨as,e',f2⟩|e'
    ·exact .inl ⟨z :: as,by rw [e,e'],f2.cons (g2 _ _ _ h1)⟩
    ·exact .inr (by rw [e,e'])
   ·exact .inr e
noncomputable def planCallT (P:Program) (G:World→Prop) (env:Env) (mem:Mem) (dst:Option Nat) (f:Operand) (xs:List Operand):Plan:=
 match ownArg env mem xs with
 |none=>planCallF true P G env mem dst f xs
 |some p=>match mem p.1 with
  | .row T n v ys true=>match opd env f with
   | .val (.one (.d (.v (.func (.func g) first cap))))=>match first.toList,cap.toList with
    | [], []=>argTs env mem p.1 v xs (fun as=> .askT p.1 (v+1) (fun T' n' zs=>SpecT P G g as T n ys T' n' zs)) .bad
    |_,_=> .bad
   |_=> .bad
  |_=> .bad
noncomputable def planCallL (P:Program) (G:World→Prop) (env:Env) (mem:Mem) (dst:Option Nat) (f:Operand) (xs:List Operand):Plan:=
 match ownArg env mem xs with
 |none=>planCallF true P G env mem dst f xs
 |some p=>match mem p.1 with
  | .row T n v ys true=>match opd env f with
   | .val (.one (.d (.v (.func (.func g) first cap))))=>match first.toList,cap.toList with
    | [], []=>argTs env mem p.1 v xs (fun as=> .ask (fun r=>r.hs= []∧SpecL P G g as T n ys r)) .bad
    |_,_=> .bad
   |_=> .bad
  |_=> .bad
theorem ZgN (hG:∀ w',Bel w0.K w w'→G w') (st:St w0 I0 nt env mem bs a w) (hE:∀ t,env' t= .junk∨env' t=env t) (hM:∀ o,mem' o= .gone∨mem' o=mem o)
  (o:Oper) (dst:Option Nat) (f:Operand) (xs:List Operand) (ts:Array TypeId) (ho:o.op= .call { callee:= .value f,args:=⟨xs⟩,argTypes:=ts }) (hD:∀ d,dst=some d→mem' d=mem d):SoundPlan P w0 I0 nt env mem a w o (planCallT P G env' mem' dst f xs):=by
 obtain⟨h1,_⟩:=Zb st hE f
 unfold planCallT
 split
 ·exact Zao true (hG w (Bel.refl _ _)) st hE hM o dst f xs ts ho hD
 ·rename_i p hp
  split
  ·rename_i T n v ys hm'
   have hm:mem p.1= .row T n v ys true:=by
    rcases hM p.1 with h|h
    ·rw [h] at hm';simp at hm'
    ·rw [← h];exact hm'
   split
   ·rename_i g first cap hf
    rw [hf] at h1
    have ef:=Zg h1
    split
    ·rename_i e1 e2
     have e1':first=#[]:=by cases first;simpa using e1
     have e2':cap=#[]:=by cases cap;simpa using e2
     subst e1' e2'
     rcases ZaP st hE hM hm xs (fun as=>Plan.askT p.1 (v+1) (fun T' n' zs=>SpecT P G g as T n ys T' n' zs)) Plan.bad with ⟨as,e,hl⟩|e
     ·rw [e]
      intro T' n' zs hspec
      have hob:=st.obs p.1
      rw [hm] at hob
      have hmut:(mem p.1).mut=true:=by rw [hm];rfl
      have hstay:∀ b,Stay w0 I0 mem bs w b→b< w.heap.size∧¬ Blk (bs p.1) b:=by
       intro b hb
       rcases hb with ⟨g1,g2⟩|⟨g1,g2,g3⟩
       ·exact⟨st.ltK g2,fun hb=>(hob.block rfl b hb).1 g2⟩
       ·exact⟨g2,g3 p.1 hmut⟩
      have hKK:∀ b,w0.K b→(Base.less w (bs p.1)).K b:=fun b hb=>⟨st.ltK hb,fun h=>(hob.block rfl b h).1 hb⟩
      obtain⟨cs,hown,hn,hcl,hrow,hden⟩:=hob
      have hown2:ownsK (Base.less w (bs p.1)).K w T n (bs p.1) ys.length cs:=ZP hown.row fun k hk=>fun h=>h.2 (by
       rcases hown.2 with ⟨e3,_⟩|⟨g',cap',cur',e3,_⟩
       ·rw [e3] at hk;simp [Value.ownBlock] at hk
       ·rw [e3] at hk ⊢;simpa [Blk,Value.ownBlock] using hk)
      have hc:=hspec.2 w (Stay w0 I0 mem bs w) (xs.map a.eval) (bs p.1) (fun w' hb=>hG w' ⟨hb.os,hb.tape,hb.output,hb.size,fun k hk=>hb.block k (hKK k hk)⟩) hstay
       ⟨cs,hown2,hn,hcl,hrow,hden⟩ hl
      refine ZK (f:=g) (args:=(xs.map a.eval).toArray) (w':=w) ?_ ?_
      ·have hrun:=hspec.1 (xs.map a.eval).toArray w
       simp only [execOp,ho,resolve,ef,Deferred.ofValue,Sem.run_bind,Sem.run_pure,Result.andThen_ok,invoke]
       simpa using hrun
      ·refine Calls.mono hc fun e w' ⟨y,he,⟨ds,hown',hn',hdl,hrow',hden'⟩,hb⟩=>⟨y,he,?_⟩
       have hb0:Bel w0.K w w':=⟨hb.os,hb.tape,hb.output,hb.size,fun k hk=>hb.block k (hKK k hk)⟩
       have hblky:∀ b,Blk y b→y.ownBlock=some b:=by
        intro b hby
        rcases hown'.2 with ⟨rfl,_⟩|⟨g',cap',cur',rfl,_⟩
        ·simp [Blk] at hby
        ·simpa [Blk,Value.ownBlock] using hby
       have hk:∀ k,k< w.heap.size→((mem p.1).mut=true→¬ Blk (bs p.1) k)→w'.heap[k]? =w.heap[k]? :=fun k hk hne=>hb.block k ⟨hk,hne hmut⟩
       have hx:∀ b,(Ob.row T' n' (v+1) zs true).mut=true→Blk y b→((mem p.1).mut=true∧Blk (bs p.1) b)∨(w.heap.size≤b∧b< w'.heap.size):=by
        intro b _ hby
        have hnk:=hown'.not (hblky b hby)
        have hlt:=hown'.lt (hblky b hby)
        by_cases hlt2:b< w.heap.size
        ·by_cases hbb:Blk (bs p.1) b
         ·exact .inl ⟨hmut,hbb⟩
         ·exact absurd ⟨hlt2,hbb⟩ hnk
        ·exact .inr ⟨Nat.le_of_not_lt hlt2,hlt⟩
       have hv:Turns mem bs p.1 (.row T' n' (v+1) zs true) y:= .inr (.inr (.inl ⟨T,n,v,ys,true,T',n',v+1,zs,true,hm,rfl,Nat.le_succ _,fun e=>by omega⟩))
       have K:=st.keeps p.1 (.row T' n' (v+1) zs true) y hb0 hk hx hv
       have hst:∀ b,(Stay w0 I0 mem bs w b∨(¬ (Base.less w (bs p.1)).K b∧b< w'.heap.size))∧¬ Blk y b→Stay w0 I0 (upd mem p.1 (.row T' n' (v+1) zs true)) (upd bs p.1 y) w' b:=by
        rintro b ⟨h|⟨h1,h2⟩,hne⟩
        ·exact(K.stay b h).1
        ·refine .inr ⟨fun hk0=>h1 (hKK b hk0),h2,fun o' hm' hbo=> ?_⟩
         by_cases e5:o'=p.1
         ·subst e5;rw [Zd] at hbo;exact hne hbo
         ·rw [ZG _ _ e5] at hm' hbo
          have hlt:=((st.obs o').block hm' b hbo).2
          exact h1 ⟨hlt,fun h=>e5 (st.sep o' p.1 b hm' hmut hbo h)⟩
       refine⟨upd bs p.1 y,st.update p.1 _ y hb0 hk hx hv rfl (fun q hq=>by simp [Ob.hs] at hq) ?_,⟨?_,fun T2 n2 xs2 own2 hm2=> ?_⟩,fun q hq=> ?_⟩
       ·refine⟨ds,ZP hown'.row fun k hk0=>fun hk1=>hown'.not hk0 (hKK k hk1),hn',hdl,hrow',fun i j r d hi hj=> ?_⟩
        obtain⟨z,hz,hd⟩:=hden' i j r d hi hj
        exact⟨z,hz,Den.mono (fun b hb'=>⟨hst b hb',rfl⟩) hd⟩
       ·rcases hown'.2 with ⟨rfl,_⟩|⟨g',cap',cur',rfl,_⟩<;>rfl
       ·rw [Zd]
       ·have:q=(p.1,v+1):=by simpa [AV.hs,S.hs,C.hs] using hq
        subst this
        exact⟨by simp only [Zd];rfl,by simp only [Zd];exact Nat.le_refl _⟩
     ·rw [e];trivial
    ·trivial
   ·trivial
  ·trivial
theorem ZgR (hG:∀ w',Bel w0.K w w'→G w') (st:St w0 I0 nt env mem bs a w) (hE:∀ t,env' t= .junk∨env' t=env t) (hM:∀ o,mem' o= .gone∨mem' o=mem o)
  (o:Oper) (dst:Option Nat) (f:Operand) (xs:List Operand) (ts:Array TypeId) (ho:o.op= .call { callee:= .value f,args:=⟨xs⟩,argTypes:=ts }) (hD:∀ d,dst=some d→mem' d=mem d):SoundPlan P w0 I0 nt env mem a w o (planCallL P G env' mem' dst f xs):=by
 obtain⟨h1,_⟩:=Zb st hE f
 unfold planCallL
 split
 ·exact Zao true (hG w (Bel.refl _ _)) st hE hM o dst f xs ts ho hD
 ·rename_i p hp
  split
  ·rename_i T n v ys hm'
   have hm:mem p.1= .row T n v ys true:=by
    rcases hM p.1 with h|h
    ·rw [h] at hm';simp at hm'
    ·rw [← h];exact hm'
   split
   ·rename_i g first cap hf
    rw [hf] at h1
    have ef:=Zg h1
    split
    ·rename_i e1 e2
     have e1':first=#[]:=by cases first;simpa using e1
     have e2':cap=#[]:=by cases cap;simpa using e2
     subst e1' e2'
     rcases ZaP st hE hM hm xs (fun as=>Plan.ask (fun r=>r.hs= []∧SpecL P G g as T n ys r)) Plan.bad with ⟨as,e,hl⟩|e
     ·rw [e]
      intro r ⟨hrh,hspec⟩
      have hob:=st.obs p.1
      rw [hm] at hob
      have hmut:(mem p.1).mut=true:=by rw [hm];rfl
      have hstay:∀ b,Stay w0 I0 mem bs w b→b< w.heap.size∧¬ Blk (bs p.1) b:=by
       intro b hb
       rcases hb with ⟨g1,g2⟩|⟨g1,g2,g3⟩
       ·exact⟨st.ltK g2,fun hb=>(hob.block rfl b hb).1 g2⟩
       ·exact⟨g2,g3 p.1 hmut⟩
      have hKK:∀ b,w0.K b→(Base.less w (bs p.1)).K b:=fun b hb=>⟨st.ltK hb,fun h=>(hob.block rfl b h).1 hb⟩
      obtain⟨cs,hown,hn,hcl,hrow,hden⟩:=hob
      have hown2:ownsK (Base.less w (bs p.1)).K w T n (bs p.1) ys.length cs:=ZP hown.row fun k hk=>fun h=>h.2 (by
       rcases hown.2 with ⟨e3,_⟩|⟨g',cap',cur',e3,_⟩
       ·rw [e3] at hk;simp [Value.ownBlock] at hk
       ·rw [e3] at hk ⊢;simpa [Blk,Value.ownBlock] using hk)
      have hc:=hspec.2 w (Stay w0 I0 mem bs w) (xs.map a.eval) (bs p.1) (fun w' hb=>hG w' ⟨hb.os,hb.tape,hb.output,hb.size,fun k hk=>hb.block k (hKK k hk)⟩) hstay
       ⟨cs,hown2,hn,hcl,hrow,hden⟩ hl
      refine ZK (f:=g) (args:=(xs.map a.eval).toArray) (w':=w) ?_ ?_
      ·have hrun:=hspec.1 (xs.map a.eval).toArray w
       simp only [execOp,ho,resolve,ef,Deferred.ofValue,Sem.run_bind,Sem.run_pure,Result.andThen_ok,invoke]
       simpa using hrun
      ·refine Calls.mono hc fun e w' ⟨y,he,hy,⟨ds,hown',hn',hdl,hrow',hden'⟩,hb⟩=>⟨y,he,?_⟩
       have hb0:Bel w0.K w w':=⟨hb.os,hb.tape,hb.output,hb.size,fun k hk=>hb.block k (hKK k hk)⟩
       have hk:∀ k,k< w.heap.size→((mem p.1).mut=true→¬ Blk (bs p.1) k)→w'.heap[k]? =w.heap[k]? :=fun k hk hne=>hb.block k ⟨hk,hne hmut⟩
       have hx:∀ b,(Ob.row T n v ys true).mut=true→Blk (bs p.1) b→((mem p.1).mut=true∧Blk (bs p.1) b)∨(w.heap.size≤b∧b< w'.heap.size):=fun b _ hby=> .inl ⟨hmut,hby⟩
       have hv:Turns mem bs p.1 (.row T n v ys true) (bs p.1):= .inr (.inr (.inl ⟨T,n,v,ys,true,T,n,v,ys,true,hm,rfl,Nat.le_refl _,fun _=>⟨rfl,rfl⟩⟩))
       have em:upd mem p.1 (.row T n v ys true)=mem:=by rw [← hm];exact Za9 _ _
       have eb:upd bs p.1 (bs p.1)=bs:=Za9 _ _
       have K:=st.keeps p.1 (.row T n v ys true) (bs p.1) hb0 hk hx hv
       rw [em,eb] at K
       have hst:∀ b,(Stay w0 I0 mem bs w b∨(¬ (Base.less w (bs p.1)).K b∧b< w'.heap.size))∧¬ Blk (bs p.1) b→Stay w0 I0 mem bs w' b:=by
        rintro b ⟨h|⟨h1,h2⟩,hne⟩
        ·exact(K.stay b h).1
        ·refine .inr ⟨fun hk0=>h1 (hKK b hk0),h2,fun o' hm' hbo=> ?_⟩
         have hlt:=((st.obs o').block hm' b hbo).2
         exact h1 ⟨hlt,hne⟩
       have st':=st.update p.1 (.row T n v ys true) (bs p.1) hb0 hk hx hv rfl (fun q hq=>by simp [Ob.hs] at hq) (by
        refine⟨ds,ZP hown'.row fun k hk0=>fun hk1=>hown'.not hk0 (hKK k hk1),hn',hdl,hrow',fun i j r d hi hj=> ?_⟩
        obtain⟨z,hz,hd⟩:=hden' i j r d hi hj
        exact⟨z,hz,Den.mono (fun b hb'=>⟨by rw [em,eb];exact hst b hb',rfl⟩) hd⟩)
       rw [em,eb] at st'
       have K2:Keeps w' (fun b=>(Stay w0 I0 mem bs w b∨(¬ (Base.less w (bs p.1)).K b∧b< w'.heap.size))∧¬ Blk (bs p.1) b) noBs noMem w' (Stay w0 I0 mem bs w') bs mem (fun _=>False):=⟨fun b hb=>⟨hst b hb,rfl⟩,fun _ _ h=>h.elim,fun _ _ _ _ _ _ h=>h.elim,fun _ _ _ _ _ _ _ _ _ _ _ _ _ h=>h.elim⟩
       exact⟨bs,st',K2.av (fun o ho=>by rw [hrh] at ho;simp at ho) hy,fun q hq=>by rw [hrh] at hq;simp at hq⟩
     ·rw [e];trivial
    ·trivial
   ·trivial
  ·trivial
end
section
variable {P : Program} {G : World → Prop} {w0 : Base} {I0 : Nat → Prop} {nt : Shape} {env env' : Env} {mem mem' : Mem} {bs : Bs} {a : Act} {w : World}
theorem ZiJ (st:St w0 I0 nt env mem bs a w) {b T0 n v:Nat} {xs xs':List (List D)} (hb:mem b= .row T0 n v xs true) {g m c:Nat} (hg:bs b= .slice (some ⟨g,0,none⟩) m c) {off:Nat} {vs:List Value} {w':World} {cur:Array Value}
  (hcur:w.heap[g]? =some (.cells cur T0 (0,0))) (hrow:Row w' g T0 (repl cur.toList off vs)) (hbut:But g w w') (hin:off+vs.length≤xs.length*n) (hl:xs'.length=xs.length) (hr:∀ r,r∈xs'→r.length=n)
  (hd:∀ ys:List Value,ys.length=xs.length*n→(∀ (i j:Nat) (r:List D) (d:D),xs[i]? =some r→r[j]? =some d→∃ y,ys[i*n+j]? =some y∧Den w (Stay w0 I0 mem bs w) y d)→
   ∀ (i j:Nat) (r:List D) (d:D),xs'[i]? =some r→r[j]? =some d→∃ y,(repl ys off vs)[i*n+j]? =some y∧Den w (Stay w0 I0 mem bs w) y d):
  St w0 I0 nt env (upd mem b (.row T0 n v xs' true)) (upd bs b (bs b)) a w':=by
 have hob:=st.obs b
 rw [hb] at hob
 obtain⟨ys,hown,hn0,hyl,hxl,hdd⟩:=hob
 rcases hown.2 with ⟨e5,_⟩|⟨g',cap,cur',e5,e6,e7,e8,e9,e10,e11⟩
 ·rw [hg] at e5;simp at e5
 ·rw [hg] at e5
  simp only [Value.slice.injEq,Option.some.injEq,Addr.mk.injEq,and_true] at e5
  obtain⟨rfl,rfl,rfl⟩:=e5
  rw [hcur] at e7
  simp only [Option.some.injEq,Obj.cells.injEq,and_true] at e7
  subst e7
  have hcap:xs.length*n≤c*n:=Nat.mul_le_mul_right _ e8
  have hbel:Bel w0.K w w':=hbut.bel e6
  have hblkb:Blk (bs b) g:=by rw [hg];rfl
  have hk:∀ k,k< w.heap.size→((mem b).mut=true→¬ Blk (bs b) k)→w'.heap[k]? =w.heap[k]? :=by
   intro k _ hne
   refine hbut.block k (fun e=> ?_)
   subst e
   exact hne (by rw [hb];rfl) hblkb
  have hxx:∀ q,(Ob.row T0 n v xs' true).mut=true→Blk (bs b) q→((mem b).mut=true∧Blk (bs b) q)∨(w.heap.size≤q∧q< w'.heap.size):=fun q _ hq=> .inl ⟨by rw [hb];rfl,hq⟩
  have hv:Turns mem bs b (.row T0 n v xs' true) (bs b):= .inr (.inr (.inl ⟨T0,n,v,xs,true,T0,n,v,_,true,hb,rfl,Nat.le_refl _,fun _=>⟨rfl,rfl⟩⟩))
  have K:=st.keeps b (.row T0 n v xs' true) (bs b) hbel hk hxx hv
  refine st.update b _ (bs b) hbel hk hxx hv rfl (fun p hp=>by simp [Ob.hs] at hp) ?_
  refine⟨repl ys off vs,⟨?_,.inr ⟨g,c,(repl cur.toList off vs).toArray,?_,e6,?_,?_,e9,?_,?_⟩⟩,hn0,?_,hr,?_⟩
  ·rw [ZB,hl];exact hyl
  ·rw [hg,hl]
  ·unfold Row at hrow;exact hrow
  ·rw [hl];exact e8
  ·simp [ZB,e10]
  ·simp only [hl]
   rw [Zdq _ _ _ _ hin,e11]
  ·rw [ZB,hl];exact hyl
  ·intro i j r d hi hj
   obtain⟨y,hy,hdy⟩:=hd ys hyl hdd i j r d hi hj
   exact⟨y,hy,Den.mono K.stay hdy⟩
def planSliceRs (TB:List (Nat×Ty)) (env:Env) (T:TypeId) (l:Operand) (o v T0 n v':Nat) (xs:List (List D)):Plan:=
 match look TB T with
 |some ty=>match ty.elem with
  |some e=>match look TB e with
   |some te=>bif Nat.beq v v'&&(Nat.beq T0 e&&Nat.beq n te.size) then intK (opd env l) (fun m=> .ask fun r=>0≤m∧m< (xs.length:Int)∧r= .val (.one (.rs o v n m.toNat))) .bad else .bad
   |none=> .bad
  |none=> .bad
 |none=> .bad
def planSliceX (P:Program) (TB:List (Nat×Ty)) (env:Env) (mem:Mem) (T:TypeId) (x:Operand) (lo hi mx:Option Operand):Plan:=
 match opd env x with
 | .val (.one (.row o v))=>match mem o with
  | .row T0 n v' xs true=>match lo,hi,mx with
   |some l,none,none=>planSliceRs TB env T l o v T0 n v' xs
   |_,_,_=>planSliceS P TB env mem T x lo hi mx
  |_=>planSliceS P TB env mem T x lo hi mx
 |_=>planSliceS P TB env mem T x lo hi mx
theorem ZfB {TB:List (Nat×Ty)} (hTB:TBok P TB) (st:St w0 I0 nt env mem bs a w) (hE:∀ t,env' t= .junk∨env' t=env t) (hM:∀ o,mem' o= .gone∨mem' o=mem o)
  (o:Oper) (T:TypeId) (x:Operand) (lo hi mx:Option Operand) (ho:o.op= .slice T x lo hi mx):SoundPlan P w0 I0 nt env mem a w o (planSliceX P TB env' mem' T x lo hi mx):=by
 have base:=ZfC (P:=P) hTB st hE hM o T x lo hi mx ho
 unfold planSliceX
 split
 ·rename_i ob v hx
  split
  ·rename_i T0 n v' xs hb
   split
   ·rename_i l
    obtain⟨h1,h2⟩:=Zb st hE x
    rw [hx] at h1 h2
    have hb':mem ob= .row T0 n v' xs true:=by
     rcases hM ob with h|h
     ·rw [h] at hb;simp at hb
     ·rw [← h];exact hb
    unfold planSliceRs
    split
    ·rename_i ty hty
     obtain⟨ti,tu,tz,hi'⟩:=Zj (hTB T ty (Ze hty))
     split
     ·rename_i e he
      split
      ·rename_i te hte
       obtain⟨ei,eu,ez,hei⟩:=Zj (hTB e te (Ze hte))
       have hu:=hi'.slice he
       cases hc:(Nat.beq v v'&&(Nat.beq T0 e&&Nat.beq n te.size)) with
       |false=>trivial
       |true=>
        simp only [Bool.and_eq_true] at hc
        obtain rfl:=Nat.eq_of_beq_eq_true hc.1
        obtain rfl:=Nat.eq_of_beq_eq_true hc.2.1
        have hn:=Nat.eq_of_beq_eq_true hc.2.2
        simp only [cond_true]
        rcases Zx (opd env' l) (fun m=>Plan.ask fun r=>0≤m∧m< (xs.length:Int)∧r= .val (.one (.rs ob v n m.toNat))) Plan.bad with ⟨kd,m,ev,e1⟩|e1
        ·rw [e1]
         intro r ⟨b1,b2,hr⟩
         subst hr
         obtain⟨g1,_⟩:=Zb st hE l
         rw [ev] at g1
         have em:=Zg g1
         have ex:a.eval x=bs ob:=h1.2 _ _ _ _ hb'
         have hob:=st.obs ob
         rw [hb'] at hob
         obtain⟨ys,hown,hn0,hyl,hxl,hdd⟩:=hob
         rcases hown.2 with ⟨e2,e3⟩|⟨g,cap,cur,e2,e3,e4,e5,e6,e7,e8⟩
         ·omega
         ·have hle:0≤m∧m≤(xs.length:Int):=⟨b1,by omega⟩
          have hne:¬ cap=m.toNat:=by omega
          refine Za (.slice (some ⟨g,m.toNat*n,none⟩) (xs.length - m.toNat) (cap - m.toNat)) ?_ (Zc st ⟨rfl,fun T xs' own hm'=>⟨g,xs.length,cap,e2,by omega,rfl⟩⟩ (fun p hp=>h2 p (by simpa [AV.hs,S.hs,C.hs] using hp)))
          have hrun:(Instr.sliceAt T (.slice (some ⟨g,0,none⟩) xs.length cap) (some (.int kd m)) none none).run P w= .ok (.slice (if cap=m.toNat then some ⟨g,0,none⟩ else (some (⟨g,0,none⟩:Addr)).map (·.add (m.toNat*te.size))) (xs.length - m.toNat) (cap - m.toNat)) w:=by
           simp [Instr.sliceAt,Instr.slice,run_underlying hu,Instr.sliceBounds,Instr.sliceBound,asIntOf,hle,hei.run_size]
          rw [if_neg hne] at hrun
          simp only [Option.map_some,Addr.add_lit,Nat.zero_add,← hn] at hrun
          simp only [execOp,ho,ex,e2,em,Option.map_some,Option.map_none,Sem.run_bind,hrun,Result.andThen_ok,Sem.run_pure]
        ·rw [e1];trivial
      ·trivial
     ·trivial
    ·trivial
   ·exact base
  ·exact base
 ·exact base
def planIndexRs (TB:List (Nat×Ty)) (env:Env) (T:TypeId) (i:Operand) (o v n i0 n' v':Nat) (xs:List (List D)):Plan:=
 match look TB T with
 |some ty=>match ty.arr,ty.elem with
  |none,some e=>match look TB e with
   |some te=>bif Nat.beq v v'&&(Nat.beq n n'&&Nat.beq n te.size) then intK (opd env i) (fun m=> .ask fun r=>0≤m∧(i0:Int)+m< (xs.length:Int)∧r= .val (.one (.rp o v n (i0+m.toNat) 0))) .bad else .bad
   |none=> .bad
  |_,_=> .bad
 |none=> .bad
def planIndexAddrX (TB:List (Nat×Ty)) (env:Env) (mem:Mem) (T:TypeId) (x i:Operand):Plan:=
 match opd env x with
 | .val (.one (.rs o v n i0))=>match mem o with
  | .row _ n' v' xs true=>planIndexRs TB env T i o v n i0 n' v' xs
  |_=> .bad
 |_=>planIndexAddrG TB env mem T x i
theorem Zc8 {TB:List (Nat×Ty)} (hTB:TBok P TB) (st:St w0 I0 nt env mem bs a w) (hE:∀ t,env' t= .junk∨env' t=env t) (hM:∀ o,mem' o= .gone∨mem' o=mem o)
  (o:Oper) (T:TypeId) (x i:Operand) (ho:o.op= .indexAddr T x i):SoundPlan P w0 I0 nt env mem a w o (planIndexAddrX TB env' mem' T x i):=by
 unfold planIndexAddrX
 split
 ·rename_i ob v n i0 hx
  split
  ·rename_i T0 n' v' xs hb
   obtain⟨h1,h2⟩:=Zb st hE x
   rw [hx] at h1 h2
   have hb':mem ob= .row T0 n' v' xs true:=by
    rcases hM ob with h|h
    ·rw [h] at hb;simp at hb
    ·rw [← h];exact hb
   unfold planIndexRs
   split
   ·rename_i ty hty
    obtain⟨ti,tu,tz,hi⟩:=Zj (hTB T ty (Ze hty))
    split
    ·rename_i e har he
     split
     ·rename_i te hte
      obtain⟨ei,eu,ez,hei⟩:=Zj (hTB e te (Ze hte))
      cases hc:(Nat.beq v v'&&(Nat.beq n n'&&Nat.beq n te.size)) with
      |false=>trivial
      |true=>
       simp only [Bool.and_eq_true] at hc
       obtain rfl:=Nat.eq_of_beq_eq_true hc.1
       obtain rfl:=Nat.eq_of_beq_eq_true hc.2.1
       have hn:=Nat.eq_of_beq_eq_true hc.2.2
       simp only [cond_true]
       rcases Zx (opd env' i) (fun m=>Plan.ask fun r=>0≤m∧(i0:Int)+m< (xs.length:Int)∧r= .val (.one (.rp ob v n (i0+m.toNat) 0))) Plan.bad with ⟨kd,m,g1,g2⟩|g2
       ·rw [g2]
        intro r ⟨h0,hm,hr⟩
        subst hr
        obtain⟨f1,_⟩:=Zb st hE i
        rw [g1] at f1
        have em:=Zg f1
        obtain⟨b,m0,c0,ebs,him,ex⟩:=h1.2 _ _ _ hb'
        have hob:=st.obs ob
        rw [hb'] at hob
        obtain⟨ys,hown,hn0,hyl,hxl,hdd⟩:=hob
        rcases hown.2 with ⟨e1,e2⟩|⟨g,cap,cur,e1,e3,e4,e5,e6,e7,e8⟩
        ·rw [ebs] at e1;simp at e1
        ·rw [ebs] at e1
         simp only [Value.slice.injEq,Option.some.injEq,Addr.mk.injEq,and_true] at e1
         obtain⟨rfl,rfl,rfl⟩:=e1
         have hle:0≤m∧m< ((xs.length - i0:Nat):Int):=⟨h0,by omega⟩
         refine Za (.pointer (some ⟨b,(i0+m.toNat)*n,none⟩)) ?_ (Zc st ⟨rfl,fun T xs' own hm'=>⟨b,xs.length,c0,ebs,by simp⟩⟩ (fun p hp=>h2 p (by simpa [AV.hs,S.hs,C.hs] using hp)))
         have hs:∀ w,(sizeOf e).run P w= .ok te.size w:=fun w=>hei.run_size w
         have hu:=hi.slice he
         have hrun:(Instr.indexAt T (.slice (some ⟨b,i0*n,none⟩) (xs.length - i0) (c0 - i0)) (.int kd m)).run P w= .ok (.pointer (some ⟨b,(i0+m.toNat)*n,none⟩)) w:=by
          simp only [Instr.indexAt,asIntOf,Sem.run_bind,Sem.run_pure,Result.andThen_ok,run_underlying hu]
          simp only [hle,and_self,if_true,Sem.run_bind,hs,Result.andThen_ok,Sem.run_pure,Addr.add_lit,← hn,Nat.add_mul]
         simp only [execOp,ho,ex,em,Sem.run_bind,hrun,Result.andThen_ok,Sem.run_pure]
       ·rw [g2];trivial
     ·trivial
    ·trivial
   ·trivial
  ·trivial
 ·exact Zda (P:=P) hTB st hE hM o T x i ho
def planLenX (TB:List (Nat×Ty)) (env:Env) (mem:Mem) (ts:List TypeId) (xs:List Operand):Plan:=
 match xs,ts with
 | [x],t :: _=>match opd env x with
  | .val (.one (.rs o v n i0))=>match mem o,look TB t with
   | .row _ n' v' ys true,some ty=>match ty.str,ty.elem with
    |false,some _=>bif Nat.beq v v'&&Nat.beq n n' then .ret (one (.int .i64 ((ys.length - i0:Nat):Int))) else .bad
    |_,_=> .bad
   |_,_=> .bad
  |_=>planLen TB env mem ts xs
 |_,_=>planLen TB env mem ts xs
theorem ZiO {TB:List (Nat×Ty)} (hTB:TBok P TB) (st:St w0 I0 nt env mem bs a w) (hE:∀ t,env' t= .junk∨env' t=env t) (hM:∀ o,mem' o= .gone∨mem' o=mem o)
  (o:Oper) (xs:List Operand) (ts:List TypeId) (ho:o.op= .call { callee:= .builtin .len,args:=⟨xs⟩,argTypes:=⟨ts⟩ }):SoundPlan P w0 I0 nt env mem a w o (planLenX TB env' mem' ts xs):=by
 have base:=Zj5 (P:=P) hTB st hE hM o xs ts ho
 unfold planLenX
 split
 ·rename_i x t ts'
  split
  ·rename_i ob v n i0 hx
   split
   ·rename_i T0 n' v' ys ty hb hty
    obtain⟨ti,tu,tz,hi⟩:=Zj (hTB t ty (Ze hty))
    split
    ·rename_i e hstr he
     obtain⟨h1,h2⟩:=Zb st hE x
     rw [hx] at h1 h2
     have hb':mem ob= .row T0 n' v' ys true:=by
      rcases hM ob with h|h
      ·rw [h] at hb;simp at hb
      ·rw [← h];exact hb
     cases hc:(Nat.beq v v'&&Nat.beq n n') with
     |false=>trivial
     |true=>
      simp only [Bool.and_eq_true] at hc
      obtain rfl:=Nat.eq_of_beq_eq_true hc.1
      obtain rfl:=Nat.eq_of_beq_eq_true hc.2
      simp only [cond_true]
      obtain⟨b,m0,c0,ebs,him,ex⟩:=h1.2 _ _ _ hb'
      have hob:=st.obs ob
      rw [hb'] at hob
      obtain⟨zs,hown,hn0,hyl,hxl,hdd⟩:=hob
      rcases hown.2 with ⟨e1,e2⟩|⟨g,cap,cur,e1,e3,e4,e5,e6,e7,e8⟩
      ·rw [ebs] at e1;simp at e1
      ·rw [ebs] at e1
       simp only [Value.slice.injEq,Option.some.injEq,Addr.mk.injEq,and_true] at e1
       obtain⟨rfl,rfl,rfl⟩:=e1
       have hu:=hi.slice he
       refine Za (.int .i64 ((ys.length - i0:Nat):Int)) (Zp ho ?_) (Zc st (Den.v _ rfl) (fun p hp=>by simp [one,AV.hs,S.hs,C.hs] at hp))
       have hr:=ZaG (P:=P) (ts:=ts') (ty:=o.type) hu ex w
       simp only [builtin,Sem.run_bind,List.map_toArray,List.map_cons,List.map_nil,hr,Result.andThen_ok,Sem.run_pure]
    ·trivial
   ·trivial
  ·exact base
 ·exact base
def planClear (TB:List (Nat×Ty)) (env:Env) (mem:Mem) (ts:List TypeId) (xs:List Operand):Plan:=
 match xs,ts with
 | [x], [t]=>match opd env x with
  | .val (.one (.rs o v n i0))=>match mem o,look TB t with
   | .row T0 n' v' ys true,some ty=>match ty.elem with
    |some e=>match look TB e with
     |some te=>bif Nat.beq v v'&&(Nat.beq n n'&&(Nat.beq n te.size&&Nat.beq T0 e)) then .put .junk o (.row T0 n v (ys.take i0++List.replicate (ys.length - i0) (te.zero.map cD)) true) else .bad
     |none=> .bad
    |none=> .bad
   |_,_=> .bad
  |_=> .bad
 |_,_=> .bad
theorem ZcZ (z:Array Value) (n k:Nat) (hk:k< n*z.size):(Builtin.zeroCells z n).toList[k]? =z.toList[k % z.size]? :=by
 have hz:0< z.size:=by
  rcases Nat.eq_zero_or_pos z.size with h|h
  ·rw [h] at hk;omega
  ·exact h
 have h5:k % z.size< z.size:=Nat.mod_lt _ hz
 rw [Array.getElem?_toList,Array.getElem?_toList]
 unfold Builtin.zeroCells
 rw [Array.getElem?_map,Array.getElem?_range,if_pos hk]
 simp only [Option.map_some]
 rw [Array.getElem?_eq_getElem h5,getElem!_pos z (k % z.size) h5]
theorem ZeG (z:Array Value) (n:Nat):(Builtin.zeroCells z n).size=n*z.size:=by simp [Builtin.zeroCells]
theorem ZgK {TB:List (Nat×Ty)} (hTB:TBok P TB) (st:St w0 I0 nt env mem bs a w) (hE:∀ t,env' t= .junk∨env' t=env t) (hM:∀ o,mem' o= .gone∨mem' o=mem o)
  (o:Oper) (xs:List Operand) (ts:List TypeId) (ho:o.op= .call { callee:= .builtin .clear,args:=⟨xs⟩,argTypes:=⟨ts⟩ }):SoundPlan P w0 I0 nt env mem a w o (planClear TB env' mem' ts xs):=by
 unfold planClear
 split
 ·rename_i x t
  split
  ·rename_i ob v n i0 hx
   split
   ·rename_i T0 n' v' ys ty hb hty
    obtain⟨ti,tu,tz,hi⟩:=Zj (hTB t ty (Ze hty))
    split
    ·rename_i e he
     split
     ·rename_i te hte
      obtain⟨ei,eu,ez,hei⟩:=Zj (hTB e te (Ze hte))
      obtain⟨h1,h2⟩:=Zb st hE x
      rw [hx] at h1 h2
      have hb':mem ob= .row T0 n' v' ys true:=by
       rcases hM ob with h|h
       ·rw [h] at hb;simp at hb
       ·rw [← h];exact hb
      cases hc:(Nat.beq v v'&&(Nat.beq n n'&&(Nat.beq n te.size&&Nat.beq T0 e))) with
      |false=>trivial
      |true=>
       simp only [Bool.and_eq_true] at hc
       obtain rfl:=Nat.eq_of_beq_eq_true hc.1
       obtain rfl:=Nat.eq_of_beq_eq_true hc.2.1
       have hn:=Nat.eq_of_beq_eq_true hc.2.2.1
       obtain rfl:=Nat.eq_of_beq_eq_true hc.2.2.2
       simp only [cond_true]
       obtain⟨b,m0,c0,ebs,him,ex⟩:=h1.2 _ _ _ hb'
       have hob:=st.obs ob
       rw [hb'] at hob
       obtain⟨zs,hown,hn0,hyl,hxl,hdd⟩:=hob
       rcases hown.2 with ⟨e1,e2⟩|⟨g,cap,cur,e1,e3,e4,e5,e6,e7,e8⟩
       ·rw [ebs] at e1;simp at e1
       ·rw [ebs] at e1
        simp only [Value.slice.injEq,Option.some.injEq,Addr.mk.injEq,and_true] at e1
        obtain⟨rfl,rfl,rfl⟩:=e1
        have hu:=hi.slice he
        have hezs:ez.cells.size=n:=by rw [hei.zs,← hei.size,hn]
        have hm:(ys.length - i0)*n+i0*n=ys.length*n:=by rw [← Nat.add_mul];congr 1;omega
        have hcap:ys.length*n≤c0*n:=Nat.mul_le_mul_right _ e5
        have hvl:(Builtin.zeroCells ez.cells (ys.length - i0)).toList.length=(ys.length - i0)*n:=by simp [ZeG,hezs]
        obtain⟨w',hrun,hrow',hbut⟩:=ZcI P (b:=b) (T:=T0) (off:=i0*n) (Builtin.zeroCells ez.cells (ys.length - i0)).toList 0 w cur.toList (ZbE e4) (by rw [hvl];simp [e7];omega) (fun y hy=>by
         obtain⟨k,hk⟩:=List.getElem?_of_mem hy
         have hkl:k< (ys.length - i0)*ez.cells.size:=by have:=(List.getElem?_eq_some_iff.1 hk).1;rw [hvl] at this;rw [hezs];exact this
         rw [ZcZ _ _ _ hkl] at hk
         exact hei.zf y (List.mem_of_getElem? hk))
        have hp0:ys.length - i0≠0:=by omega
        have hr:(Builtin.clear_ ⟨[t]⟩ o.type #[a.eval x]).run P w= .ok (.tuple #[]) w':=by
         obtain⟨q,hq⟩:∃ q,ys.length - i0=q+1:=⟨ys.length - i0 - 1,by omega⟩
         rw [ex,hq]
         rw [hq] at hrun
         simp [Builtin.clear_,run_underlying hu,hei.run_zero,hrun]
        refine Za (w':=w') (.tuple #[]) (Zp ho (by simp only [builtin,Sem.run_bind,List.map_toArray,List.map_cons,List.map_nil,hr,Result.andThen_ok,Sem.run_pure])) ⟨upd bs ob (bs ob),?_,trivial,fun q hq=>by simp [AV.hs] at hq⟩
        have hzl:(te.zero.map cD).length=n:=by rw [hei.zero];simp [hezs]
        rw [Nat.add_zero] at hrow'
        refine ZiJ st hb' ebs e4 hrow' hbut (by rw [hvl];omega) (by simp;omega) ?_ ?_
        ·intro r hr
         rcases List.mem_append.1 hr with h|h
         ·exact hxl r (List.mem_of_mem_take h)
         ·rw [(List.mem_replicate.1 h).2];exact hzl
        ·intro us hul hud i j r d hi' hj
         rw [ZW,hvl]
         by_cases hlt:i< i0
         ·rw [List.getElem?_append_left (by simp;omega),List.getElem?_take_of_lt hlt] at hi'
          have hjn:j< n:=by rw [← hxl r (List.mem_of_getElem? hi')];exact(List.getElem?_eq_some_iff.1 hj).1
          have h3:(i+1)*n≤i0*n:=Nat.mul_le_mul_right _ hlt
          rw [Nat.add_mul,Nat.one_mul] at h3
          rw [if_neg (by omega)]
          exact hud i j r d hi' hj
         ·have hil:i< ys.length:=by
           have:=(List.getElem?_eq_some_iff.1 hi').1
           simp at this;omega
          rw [List.getElem?_append_right (by simp;omega),List.getElem?_replicate] at hi'
          split at hi'
          ·obtain rfl:=(Option.some.inj hi').symm
           have hjn:j< n:=by rw [← hzl];exact(List.getElem?_eq_some_iff.1 hj).1
           have h3:(i+1)*n≤ys.length*n:=Nat.mul_le_mul_right _ hil
           rw [Nat.add_mul,Nat.one_mul] at h3
           have h4:i0*n≤i*n:=Nat.mul_le_mul_right _ (by omega)
           have h5:i*n - i0*n=(i - i0)*n:=(Nat.sub_mul _ _ _).symm
           rw [if_pos (by omega),show i*n+j - i0*n=(i - i0)*n+j by omega,ZcZ _ _ _ (by rw [hezs];omega),hezs,Nat.mul_comm,Nat.mul_add_mod,Nat.mod_eq_of_lt hjn]
           rw [List.getElem?_map,hei.zero,List.getElem?_map] at hj
           cases hz:ez.cells.toList[j]? with
           |none=>rw [hz] at hj;simp at hj
           |some y=>
            rw [hz] at hj
            simp only [Option.map_some,cD,Option.some.injEq] at hj
            subst hj
            exact⟨y,rfl,Den.v y (hei.zf y (List.mem_of_getElem? hz))⟩
          ·simp at hi'
     ·trivial
    ·trivial
   ·trivial
  ·trivial
 ·trivial
def SpecS (P:Program) (G:World→Prop) (f:FuncId) (args:List AV) (T n:Nat) (xs:List (List D)) (r:AV) (ys:List (List D)):Prop:=
 Enters P f∧∀ (w:World) (I:Nat→Prop) (vs:List Value) (x:Value),(∀ w',Bel (Base.less w x).K w w'→G w')→(∀ b,I b→b< w.heap.size∧¬ Blk x b)→
  ObOk (Base.less w x) w I noBs noMem x (.row T n 0 xs true)→Rel2 (fun y av=>DenAV w I (fun _=>x) (memT T n xs) y av) vs args→
  Calls P f vs.toArray w fun e w'=>∃ y,e= .returned y∧DenAV w' (fun b=>(I b∨(¬ (Base.less w x).K b∧b< w'.heap.size))∧¬ Blk x b) noBs noMem y r∧
   ObOk (Base.less w x) w' (fun b=>(I b∨(¬ (Base.less w x).K b∧b< w'.heap.size))∧¬ Blk x b) noBs noMem x (.row T n 0 ys true)∧Bel (Base.less w x).K w w'
noncomputable def planCallS (P:Program) (G:World→Prop) (env:Env) (mem:Mem) (dst:Option Nat) (f:Operand) (xs:List Operand):Plan:=
 match ownArg env mem xs with
 |none=>planCallF true P G env mem dst f xs
 |some p=>match mem p.1 with
  | .row T n v ys true=>match opd env f with
   | .val (.one (.d (.v (.func (.func g) first cap))))=>match first.toList,cap.toList with
    | [], []=>argTs env mem p.1 v xs (fun as=> .askS p.1 T n v (fun r zs=>r.hs= []∧SpecS P G g as T n ys r zs)) .bad
    |_,_=> .bad
   |_=> .bad
  |_=> .bad
theorem ZgO (hG:∀ w',Bel w0.K w w'→G w') (st:St w0 I0 nt env mem bs a w) (hE:∀ t,env' t= .junk∨env' t=env t) (hM:∀ o,mem' o= .gone∨mem' o=mem o)
  (o:Oper) (dst:Option Nat) (f:Operand) (xs:List Operand) (ts:Array TypeId) (ho:o.op= .call { callee:= .value f,args:=⟨xs⟩,argTypes:=ts }) (hD:∀ d,dst=some d→mem' d=mem d):SoundPlan P w0 I0 nt env mem a w o (planCallS P G env' mem' dst f xs):=by
 obtain⟨h1,_⟩:=Zb st hE f
 unfold planCallS
 split
 ·exact Zao true (hG w (Bel.refl _ _)) st hE hM o dst f xs ts ho hD
 ·rename_i p hp
  split
  ·rename_i T n v ys hm'
   have hm:mem p.1= .row T n v ys true:=by
    rcases hM p.1 with h|h
    ·rw [h] at hm';simp at hm'
    ·rw [← h];exact hm'
   split
   ·rename_i g first cap hf
    rw [hf] at h1
    have ef:=Zg h1
    split
    ·rename_i e1 e2
     have e1':first=#[]:=by cases first;simpa using e1
     have e2':cap=#[]:=by cases cap;simpa using e2
     subst e1' e2'
     rcases ZaP st hE hM hm xs (fun as=>Plan.askS p.1 T n v (fun r zs=>r.hs= []∧SpecS P G g as T n ys r zs)) Plan.bad with ⟨as,e,hl⟩|e
     ·rw [e]
      intro r zs _ ⟨hrh,hspec⟩
      have hob:=st.obs p.1
      rw [hm] at hob
      have hmut:(mem p.1).mut=true:=by rw [hm];rfl
      have hstay:∀ b,Stay w0 I0 mem bs w b→b< w.heap.size∧¬ Blk (bs p.1) b:=by
       intro b hb
       rcases hb with ⟨g1,g2⟩|⟨g1,g2,g3⟩
       ·exact⟨st.ltK g2,fun hb=>(hob.block rfl b hb).1 g2⟩
       ·exact⟨g2,g3 p.1 hmut⟩
      have hKK:∀ b,w0.K b→(Base.less w (bs p.1)).K b:=fun b hb=>⟨st.ltK hb,fun h=>(hob.block rfl b h).1 hb⟩
      obtain⟨cs,hown,hn,hcl,hrow,hden⟩:=hob
      have hown2:ownsK (Base.less w (bs p.1)).K w T n (bs p.1) ys.length cs:=ZP hown.row fun k hk=>fun h=>h.2 (by
       rcases hown.2 with ⟨e3,_⟩|⟨g',cap',cur',e3,_⟩
       ·rw [e3] at hk;simp [Value.ownBlock] at hk
       ·rw [e3] at hk ⊢;simpa [Blk,Value.ownBlock] using hk)
      have hc:=hspec.2 w (Stay w0 I0 mem bs w) (xs.map a.eval) (bs p.1) (fun w' hb=>hG w' ⟨hb.os,hb.tape,hb.output,hb.size,fun k hk=>hb.block k (hKK k hk)⟩) hstay
       ⟨cs,hown2,hn,hcl,hrow,hden⟩ hl
      refine ZK (f:=g) (args:=(xs.map a.eval).toArray) (w':=w) ?_ ?_
      ·have hrun:=hspec.1 (xs.map a.eval).toArray w
       simp only [execOp,ho,resolve,ef,Deferred.ofValue,Sem.run_bind,Sem.run_pure,Result.andThen_ok,invoke]
       simpa using hrun
      ·refine Calls.mono hc fun e w' ⟨y,he,hy,⟨ds,hown',hn',hdl,hrow',hden'⟩,hb⟩=>⟨y,he,?_⟩
       have hb0:Bel w0.K w w':=⟨hb.os,hb.tape,hb.output,hb.size,fun k hk=>hb.block k (hKK k hk)⟩
       have hk:∀ k,k< w.heap.size→((mem p.1).mut=true→¬ Blk (bs p.1) k)→w'.heap[k]? =w.heap[k]? :=fun k hk hne=>hb.block k ⟨hk,hne hmut⟩
       have hx:∀ b,(Ob.row T n v zs true).mut=true→Blk (bs p.1) b→((mem p.1).mut=true∧Blk (bs p.1) b)∨(w.heap.size≤b∧b< w'.heap.size):=fun b _ hby=> .inl ⟨hmut,hby⟩
       have hv:Turns mem bs p.1 (.row T n v zs true) (bs p.1):= .inr (.inr (.inl ⟨T,n,v,ys,true,T,n,v,zs,true,hm,rfl,Nat.le_refl _,fun _=>⟨rfl,rfl⟩⟩))
       have eb:upd bs p.1 (bs p.1)=bs:=Za9 _ _
       have K:=st.keeps p.1 (.row T n v zs true) (bs p.1) hb0 hk hx hv
       rw [eb] at K
       have hst:∀ b,(Stay w0 I0 mem bs w b∨(¬ (Base.less w (bs p.1)).K b∧b< w'.heap.size))∧¬ Blk (bs p.1) b→Stay w0 I0 (upd mem p.1 (.row T n v zs true)) bs w' b:=by
        rintro b ⟨h|⟨h1,h2⟩,hne⟩
        ·exact(K.stay b h).1
        ·refine .inr ⟨fun hk0=>h1 (hKK b hk0),h2,fun o' hm' hbo=> ?_⟩
         by_cases e5:o'=p.1
         ·subst e5;exact hne hbo
         ·rw [ZG _ _ e5] at hm'
          have hlt:=((st.obs o').block hm' b hbo).2
          exact h1 ⟨hlt,hne⟩
       have st':=st.update p.1 (.row T n v zs true) (bs p.1) hb0 hk hx hv rfl (fun q hq=>by simp [Ob.hs] at hq) (by
        refine⟨ds,ZP hown'.row fun k hk0=>fun hk1=>hown'.not hk0 (hKK k hk1),hn',hdl,hrow',fun i j r d hi hj=> ?_⟩
        obtain⟨z,hz,hd⟩:=hden' i j r d hi hj
        exact⟨z,hz,Den.mono (fun b hb'=>⟨by rw [eb];exact hst b hb',rfl⟩) hd⟩)
       rw [eb] at st'
       have K2:Keeps w' (fun b=>(Stay w0 I0 mem bs w b∨(¬ (Base.less w (bs p.1)).K b∧b< w'.heap.size))∧¬ Blk (bs p.1) b) noBs noMem w' (Stay w0 I0 (upd mem p.1 (.row T n v zs true)) bs w') bs (upd mem p.1 (.row T n v zs true)) (fun _=>False):=⟨fun b hb=>⟨hst b hb,rfl⟩,fun _ _ h=>h.elim,fun _ _ _ _ _ _ h=>h.elim,fun _ _ _ _ _ _ _ _ _ _ _ _ _ h=>h.elim⟩
       exact⟨bs,st',K2.av (fun o ho=>by rw [hrh] at ho;simp at ho) hy,fun q hq=>by rw [hrh] at hq;simp at hq⟩
     ·rw [e];trivial
    ·trivial
   ·trivial
  ·trivial
def memV (T:Nat) (cs:List D):Mem:=fun o=>bif Nat.beq o 1000 then .var T (cs.map C.d) else .gone
def SpecV (P:Program) (G:World→Prop) (f:FuncId) (args:List AV) (T:Nat) (cs:List D) (r:AV) (ds:List D):Prop:=
 Enters P f∧∀ (w:World) (I:Nat→Prop) (vs:List Value) (x:Value),(∀ w',Bel (Base.less w x).K w w'→G w')→(∀ b,I b→b< w.heap.size∧¬ Blk x b)→
  ObOk (Base.less w x) w I noBs noMem x (.var T (cs.map C.d))→Rel2 (fun y av=>DenAV w I (fun _=>x) (memV T cs) y av) vs args→
  Calls P f vs.toArray w fun e w'=>∃ y,e= .returned y∧DenAV w' (fun b=>(I b∨(¬ (Base.less w x).K b∧b< w'.heap.size))∧¬ Blk x b) noBs noMem y r∧
   ObOk (Base.less w x) w' (fun b=>(I b∨(¬ (Base.less w x).K b∧b< w'.heap.size))∧¬ Blk x b) noBs noMem x (.var T (ds.map C.d))∧Bel (Base.less w x).K w w'
def dCs:List C→Option (List D)
 | []=>some []
 | .d x :: r=>match dCs r with
  |some l=>some (x :: l)
  |none=>none
 |_ :: _=>none
theorem ZnW:∀ {cs:List C} {ds:List D},dCs cs=some ds→cs=ds.map C.d
 | [],ds,h=>by simp [dCs] at h;subst h;rfl
 | .d x :: r,ds,h=>by
  unfold dCs at h
  split at h
  ·rename_i l hl
   obtain rfl:=Option.some.inj h
   rw [ZnW hl];rfl
  ·simp at h
 | .row _ _ :: _,_,h=>by simp [dCs] at h
 | .ptr _ _ :: _,_,h=>by simp [dCs] at h
 | .ref _ :: _,_,h=>by simp [dCs] at h
 | .full _ :: _,_,h=>by simp [dCs] at h
 | .rp _ _ _ _ _ :: _,_,h=>by simp [dCs] at h
 | .rs _ _ _ _ :: _,_,h=>by simp [dCs] at h
 | .mp _ :: _,_,h=>by simp [dCs] at h
 | .m _ _ _ :: _,_,h=>by simp [dCs] at h
def ptrArg (env:Env):List Operand→Option Nat
 | []=>none
 |x :: r=>match opd env x with
  | .val (.one (.ptr o 0))=>some o
  |_=>ptrArg env r
def argPs {β:Type} (env:Env) (mem:Mem) (d:Nat):List Operand→(List AV→β)→β→β
 | [],k,_=>k []
 |x :: r,k,bad=>match opd env x with
  | .val (.one (.ptr o 0))=>bif Nat.beq o d then argPs env mem d r (fun l=>k (.val (.one (.ptr 1000 0)) :: l)) bad else bad
  |y=>argAVa true mem y (fun z=>argPs env mem d r (fun l=>k (z :: l)) bad) bad
theorem Zci {β:Type} (st:St w0 I0 nt env mem bs a w) (hE:∀ t,env' t= .junk∨env' t=env t) (hM:∀ o,mem' o= .gone∨mem' o=mem o) {d T:Nat} {cs:List D}:∀ (l:List Operand) (k:List AV→β) (bad:β),
  (∃ as,argPs env' mem' d l k bad=k as∧Rel2 (fun y av=>DenAV w (Stay w0 I0 mem bs w) (fun _=>bs d) (memV T cs) y av) (l.map a.eval) as)∨argPs env' mem' d l k bad=bad
 | [],k,bad=> .inl ⟨[],rfl,Rel2.nil⟩
 |x :: r,k,bad=>by
  obtain⟨h1,_⟩:=Zb st hE x
  unfold argPs
  split
  ·rename_i o hx
   rw [hx] at h1
   cases hc:Nat.beq o d with
   |false=>exact .inr rfl
   |true=>
    obtain rfl:=Nat.eq_of_beq_eq_true hc
    simp only [cond_true]
    rcases Zci st hE hM r (fun l=>k (.val (.one (.ptr 1000 0)) :: l)) bad with ⟨as,e,f2⟩|e
    ·exact .inl ⟨_,e,f2.cons h1⟩
    ·exact .inr e
  ·rcases Za0 true st hM (opd env' x) (fun z=>argPs env' mem' d r (fun l=>k (z :: l)) bad) bad with ⟨z,e,g1,g2⟩|e
   ·rcases Zci st hE hM r (fun l=>k (z :: l)) bad with ⟨as,e',f2⟩|e'
    ·exact .inl ⟨z :: as,by rw [e,e'],f2.cons (g2 _ _ _ h1)⟩
    ·exact .inr (by rw [e,e'])
   ·exact .inr e
noncomputable def planCallV (P:Program) (G:World→Prop) (env:Env) (mem:Mem) (_dst:Option Nat) (f:Operand) (xs:List Operand):Plan:=
 match ptrArg env xs with
 |none=> .bad
 |some o=>match mem o with
  | .var T cs=>match dCs cs with
   |some ds=>match opd env f with
    | .val (.one (.d (.v (.func (.func g) first cap))))=>match first.toList,cap.toList with
     | [], []=>argPs env mem o xs (fun as=> .askV o T (fun r zs=>(r.hs= []∧ds.length=zs.length)∧SpecV P G g as T ds r zs)) .bad
     |_,_=> .bad
    |_=> .bad
   |none=> .bad
  |_=> .bad
theorem ZgM (hG:∀ w',Bel w0.K w w'→G w') (st:St w0 I0 nt env mem bs a w) (hE:∀ t,env' t= .junk∨env' t=env t) (hM:∀ o,mem' o= .gone∨mem' o=mem o)
  (o:Oper) (dst:Option Nat) (f:Operand) (xs:List Operand) (ts:Array TypeId) (ho:o.op= .call { callee:= .value f,args:=⟨xs⟩,argTypes:=ts }):SoundPlan P w0 I0 nt env mem a w o (planCallV P G env' mem' dst f xs):=by
 obtain⟨h1,_⟩:=Zb st hE f
 unfold planCallV
 split
 ·trivial
 ·rename_i q hp
  split
  ·rename_i T cs0 hm'
   split
   ·rename_i cs hcs
    obtain rfl:=ZnW hcs
    have hm:mem q= .var T (cs.map C.d):=by
     rcases hM q with h|h
     ·rw [h] at hm';simp at hm'
     ·rw [← h];exact hm'
    split
    ·rename_i g first cap hf
     rw [hf] at h1
     have ef:=Zg h1
     split
     ·rename_i e1 e2
      have e1':first=#[]:=by cases first;simpa using e1
      have e2':cap=#[]:=by cases cap;simpa using e2
      subst e1' e2'
      rcases Zci (T:=T) (cs:=cs) st hE hM xs (fun as=>Plan.askV q T (fun r zs=>(r.hs= []∧cs.length=zs.length)∧SpecV P G g as T cs r zs)) Plan.bad with ⟨as,e,hl⟩|e
      ·rw [e]
       intro r zs _ ⟨⟨hrh,hlen⟩,hspec⟩
       have hob:=st.obs q
       rw [hm] at hob
       have hmut:(mem q).mut=true:=by rw [hm];rfl
       have hstay:∀ b,Stay w0 I0 mem bs w b→b< w.heap.size∧¬ Blk (bs q) b:=by
        intro b hb
        rcases hb with ⟨g1,g2⟩|⟨g1,g2,g3⟩
        ·exact⟨st.ltK g2,fun hb=>(hob.block rfl b hb).1 g2⟩
        ·exact⟨g2,g3 q hmut⟩
       have hKK:∀ b,w0.K b→(Base.less w (bs q)).K b:=fun b hb=>⟨st.ltK hb,fun h=>(hob.block rfl b h).1 hb⟩
       obtain⟨b0,l,hbq,hnk,hrow,hll,hden⟩:=hob
       have hnk2:¬ (Base.less w (bs q)).K b0:=fun h=>h.2 (by rw [hbq];rfl)
       have hc:=hspec.2 w (Stay w0 I0 mem bs w) (xs.map a.eval) (bs q) (fun w' hb=>hG w' ⟨hb.os,hb.tape,hb.output,hb.size,fun k hk=>hb.block k (hKK k hk)⟩) hstay
        ⟨b0,l,hbq,hnk2,hrow,hll,fun j c y hj hy=>by
         have:=hden j c y hj hy
         rw [List.getElem?_map] at hj
         cases hd:cs[j]? with
         |none=>rw [hd] at hj;simp at hj
         |some d=>rw [hd] at hj;obtain rfl:=Option.some.inj hj;exact this⟩ hl
       refine ZK (f:=g) (args:=(xs.map a.eval).toArray) (w':=w) ?_ ?_
       ·have hrun:=hspec.1 (xs.map a.eval).toArray w
        simp only [execOp,ho,resolve,ef,Deferred.ofValue,Sem.run_bind,Sem.run_pure,Result.andThen_ok,invoke]
        simpa using hrun
       ·refine Calls.mono hc fun e w' ⟨y,he,hy,⟨b1,l1,hb1,hnk1,hrow1,hll1,hden1⟩,hb⟩=>⟨y,he,?_⟩
        have hb0:Bel w0.K w w':=⟨hb.os,hb.tape,hb.output,hb.size,fun k hk=>hb.block k (hKK k hk)⟩
        have hk:∀ k,k< w.heap.size→((mem q).mut=true→¬ Blk (bs q) k)→w'.heap[k]? =w.heap[k]? :=fun k hk hne=>hb.block k ⟨hk,hne hmut⟩
        have hx:∀ b,(Ob.var T (zs.map C.d)).mut=true→Blk (bs q) b→((mem q).mut=true∧Blk (bs q) b)∨(w.heap.size≤b∧b< w'.heap.size):=fun b _ hby=> .inl ⟨hmut,hby⟩
        have hv:Turns mem bs q (.var T (zs.map C.d)) (bs q):= .inr (.inl ⟨rfl,T,T,cs.map C.d,zs.map C.d,hm,rfl⟩)
        have eb:upd bs q (bs q)=bs:=Za9 _ _
        have K:=st.keeps q (.var T (zs.map C.d)) (bs q) hb0 hk hx hv
        rw [eb] at K
        have hst:∀ b,(Stay w0 I0 mem bs w b∨(¬ (Base.less w (bs q)).K b∧b< w'.heap.size))∧¬ Blk (bs q) b→Stay w0 I0 (upd mem q (.var T (zs.map C.d))) bs w' b:=by
         rintro b ⟨h|⟨h1,h2⟩,hne⟩
         ·exact(K.stay b h).1
         ·refine .inr ⟨fun hk0=>h1 (hKK b hk0),h2,fun o' hm' hbo=> ?_⟩
          by_cases e5:o'=q
          ·subst e5;exact hne hbo
          ·rw [ZG _ _ e5] at hm'
           have hlt:=((st.obs o').block hm' b hbo).2
           exact h1 ⟨hlt,hne⟩
        have hzh:∀ p,p∈(Ob.var T (zs.map C.d)).hs→False:=fun p hp=>by
         simp only [Ob.hs,List.mem_flatMap,List.mem_map] at hp
         obtain⟨c,⟨d,_,rfl⟩,hp⟩:=hp
         simp [C.hs] at hp
        have st':=st.update q (.var T (zs.map C.d)) (bs q) hb0 hk hx hv rfl (fun p hp=>(hzh p hp).elim) (by
         refine⟨b1,l1,hb1,fun h=> ?_,hrow1,hll1,fun j c y hj hy=> ?_⟩
         ·rw [hb1] at hbq
          have:b1=b0:=by
           have:=Value.pointer.inj hbq
           have:=Option.some.inj this
           exact congrArg Addr.block this
          subst this
          exact hnk h
         ·have hd:=hden1 j c y hj hy
          rw [List.getElem?_map] at hj
          cases hz:zs[j]? with
          |none=>rw [hz] at hj;simp at hj
          |some d=>
           rw [hz] at hj
           obtain rfl:=Option.some.inj hj
           exact Den.mono (fun b hb'=>⟨by rw [eb];exact hst b hb',rfl⟩) hd)
        rw [eb] at st'
        have K2:Keeps w' (fun b=>(Stay w0 I0 mem bs w b∨(¬ (Base.less w (bs q)).K b∧b< w'.heap.size))∧¬ Blk (bs q) b) noBs noMem w' (Stay w0 I0 (upd mem q (.var T (zs.map C.d))) bs w') bs (upd mem q (.var T (zs.map C.d))) (fun _=>False):=⟨fun b hb=>⟨hst b hb,rfl⟩,fun _ _ h=>h.elim,fun _ _ _ _ _ _ h=>h.elim,fun _ _ _ _ _ _ _ _ _ _ _ _ _ h=>h.elim⟩
        exact⟨bs,st',K2.av (fun o ho=>by rw [hrh] at ho;simp at ho) hy,fun q hq=>by rw [hrh] at hq;simp at hq⟩
      ·rw [e];trivial
     ·trivial
    ·trivial
   ·trivial
  ·trivial
def frzL (d:Nat) (env:Env):List Operand→Mem→Mem
 | [],mem=>mem
 |x :: r,mem=>match opd env x with
  | .val (.one (.row o _))=>bif Nat.beq o d then frzL d env r mem else frzL d env r (frzO o mem)
  |_=>frzL d env r mem
theorem Zjn (o:Nat) (mem:Mem):frzO o mem=mem∨∃ ob,frzO o mem=upd mem o ob:=by
 unfold frzO
 split
 ·exact .inr ⟨_,rfl⟩
 ·exact .inl rfl
theorem Zhn {o d:Nat} (h:o≠d) (mem:Mem):frzO o mem d=mem d:=by
 rcases Zjn o mem with e|⟨ob,e⟩
 ·rw [e]
 ·rw [e,ZG _ _ (fun e=>h e.symm)]
theorem Zly {o:Nat} {mem mem':Mem} (h:mem' o=mem o):frzO o mem' o=frzO o mem o:=by
 have key:∀ m:Mem,frzO o m o=match m o with
   | .row T n k xs true=> .row T n k xs false
   |ob=>ob:=fun m=>by
  cases hm:m o with
  |gone=>simp only [frzO,hm]
  |var T cs=>simp only [frzO,hm]
  |ext _ _=>simp only [frzO,hm]
  |mat _ _ _ _ _ _ _ _ _ _=>simp only [frzO,hm]
  |row T n k xs own=>cases own<;>simp only [frzO,hm,Zd]
 rw [key,key,h]
theorem ZdO (d:Nat) (env:Env) (x:Operand) (r:List Operand):(∀ mem,frzL d env (x :: r) mem=frzL d env r mem)∨∃ o,o≠d∧∀ mem,frzL d env (x :: r) mem=frzL d env r (frzO o mem):=by
 by_cases h:∃ o v,opd env x= .val (.one (.row o v))
 ·obtain⟨o,v,h⟩:=h
  cases e:Nat.beq o d with
  |true=>exact .inl fun mem=>by rw [frzL,h];simp only [e,cond_true]
  |false=>exact .inr ⟨o,fun h=>by subst h;simp at e,fun mem=>by rw [frzL,h];simp only [e,cond_false]⟩
 ·refine .inl fun mem=> ?_
  rw [frzL]
  split
  ·rename_i o v hx;exact absurd ⟨o,v,hx⟩ h
  ·rfl
theorem Zlz (d:Nat) (env:Env):∀ (l:List Operand) (mem:Mem),frzL d env l mem d=mem d
 | [],_=>rfl
 |x :: r,mem=>by
  rcases ZdO d env x r with e|⟨o,ho,e⟩
  ·rw [e,Zlz d env r]
  ·rw [e,Zlz d env r,Zhn ho]
theorem St.frzL (d:Nat) (env1:Env):∀ (l:List Operand) {mem:Mem},St w0 I0 nt env mem bs a w→St w0 I0 nt env (frzL d env1 l mem) bs a w
 | [],_,st=>st
 |x :: r,mem,st=>by
  rcases ZdO d env1 x r with e|⟨o,ho,e⟩
  ·rw [e];exact St.frzL d env1 r st
  ·rw [e];exact St.frzL d env1 r (st.frzO o)
theorem Zcz (d:Nat) (env1:Env):∀ (l:List Operand) {mem mem':Mem},(∀ o,mem' o= .gone∨mem' o=mem o)→∀ o,frzL d env1 l mem' o= .gone∨frzL d env1 l mem' o=frzL d env1 l mem o
 | [],_,_,h=>h
 |x :: r,mem,mem',h=>by
  rcases ZdO d env1 x r with e|⟨q,hq0,e⟩
  ·rw [e,e];exact Zcz d env1 r h
  ·rw [e,e]
   refine Zcz d env1 r fun o=> ?_
   by_cases eo:o=q
   ·subst eo
    rcases h o with hq|hq
    ·have e1:frzO o mem'=mem':=by unfold frzO;rw [hq]
     rw [e1];exact .inl hq
    ·exact .inr (Zly hq)
   ·rw [Zhn (fun h=>eo h.symm),Zhn (fun h=>eo h.symm)];exact h o
def argTz {β:Type} (env:Env) (mem:Mem) (d v:Nat):List Operand→(List AV→β)→β→β
 | [],k,_=>k []
 |x :: r,k,bad=>match opd env x with
  | .val (.one (.row o v'))=>bif Nat.beq o d&&Nat.beq v' v then argTz env mem d v r (fun l=>k (.val (.one (.row 1000 0)) :: l)) bad else argAVa true mem (.val (.one (.row o v'))) (fun z=>argTz env mem d v r (fun l=>k (z :: l)) bad) bad
  |y=>argAVa true mem y (fun z=>argTz env mem d v r (fun l=>k (z :: l)) bad) bad
theorem Zch {β:Type} (st:St w0 I0 nt env mem bs a w) (hE:∀ t,env' t= .junk∨env' t=env t) (hM:∀ o,mem' o= .gone∨mem' o=mem o) {d v T n:Nat} {xs:List (List D)} (hd:mem d= .row T n v xs true):∀ (l:List Operand) (k:List AV→β) (bad:β),
  (∃ as,argTz env' mem' d v l k bad=k as∧Rel2 (fun y av=>DenAV w (Stay w0 I0 mem bs w) (fun _=>bs d) (memT T n xs) y av) (l.map a.eval) as)∨argTz env' mem' d v l k bad=bad
 | [],k,bad=> .inl ⟨[],rfl,Rel2.nil⟩
 |x :: r,k,bad=>by
  obtain⟨h1,_⟩:=Zb st hE x
  have other:(∃ as,argAVa true mem' (opd env' x) (fun z=>argTz env' mem' d v r (fun l=>k (z :: l)) bad) bad=k as∧Rel2 (fun y av=>DenAV w (Stay w0 I0 mem bs w) (fun _=>bs d) (memT T n xs) y av) ((x :: r).map a.eval) as)∨argAVa true mem' (opd env' x) (fun z=>argTz env' mem' d v r (fun l=>k (z :: l)) bad) bad=bad:=by
   rcases Za0 true st hM (opd env' x) (fun z=>argTz env' mem' d v r (fun l=>k (z :: l)) bad) bad with ⟨z,e,g1,g2⟩|e
   ·rcases Zch st hE hM hd r (fun l=>k (z :: l)) bad with ⟨as,e',f2⟩|e'
    ·exact .inl ⟨z :: as,by rw [e,e'],f2.cons (g2 _ _ _ h1)⟩
    ·exact .inr (by rw [e,e'])
   ·exact .inr e
  unfold argTz
  split
  ·rename_i o v' hx
   cases hc:(Nat.beq o d&&Nat.beq v' v) with
   |false=>
    simp only [cond_false]
    rw [hx] at other
    exact other
   |true=>
    rw [hx] at h1
    simp only [Bool.and_eq_true] at hc
    obtain rfl:=Nat.eq_of_beq_eq_true hc.1
    obtain rfl:=Nat.eq_of_beq_eq_true hc.2
    simp only [cond_true]
    rcases Zch st hE hM hd r (fun l=>k (.val (.one (.row 1000 0)) :: l)) bad with ⟨as,e,f2⟩|e
    ·refine .inl ⟨_,e,f2.cons ?_⟩
     have hv:a.eval x=bs o:=h1.2 _ _ _ _ hd
     exact⟨h1.1,fun T' n' xs' own' hm=>hv⟩
    ·exact .inr e
  ·exact other
noncomputable def planCallTB (P:Program) (G:World→Prop) (env:Env) (mem:Mem) (dst:Option Nat) (f:Operand) (xs:List Operand):Plan:=
 match ownArg env mem xs with
 |none=>planCallF true P G env mem dst f xs
 |some p=>match mem p.1 with
  | .row T n v ys true=>match opd env f with
   | .val (.one (.d (.v (.func (.func g) first cap))))=>match first.toList,cap.toList with
    | [], []=>argTz env (frzL p.1 env xs mem) p.1 v xs (fun as=> .askT p.1 (v+1) (fun T' n' zs=>SpecT P G g as T n ys T' n' zs∧∀ r,r∈zs→∀ d,d∈r→∃ v,d= .v v)) .bad
    |_,_=> .bad
   |_=> .bad
  |_=> .bad
theorem ZfJ (hG:∀ w',Bel w0.K w w'→G w') (st:St w0 I0 nt env mem bs a w) (hE:∀ t,env' t= .junk∨env' t=env t) (hM:∀ o,mem' o= .gone∨mem' o=mem o)
  (o:Oper) (dst:Option Nat) (f:Operand) (xs:List Operand) (ts:Array TypeId) (ho:o.op= .call { callee:= .value f,args:=⟨xs⟩,argTypes:=ts }) (hD:∀ d,dst=some d→mem' d=mem d):SoundPlan P w0 I0 nt env mem a w o (planCallTB P G env' mem' dst f xs):=by
 obtain⟨h1,_⟩:=Zb st hE f
 unfold planCallTB
 split
 ·exact Zao true (hG w (Bel.refl _ _)) st hE hM o dst f xs ts ho hD
 ·rename_i p hp
  split
  ·rename_i T n v ys hm'
   have hm:mem p.1= .row T n v ys true:=by
    rcases hM p.1 with h|h
    ·rw [h] at hm';simp at hm'
    ·rw [← h];exact hm'
   split
   ·rename_i g first cap hf
    rw [hf] at h1
    have ef:=Zg h1
    split
    ·rename_i e1 e2
     have e1':first=#[]:=by cases first;simpa using e1
     have e2':cap=#[]:=by cases cap;simpa using e2
     subst e1' e2'
     have stf:=St.frzL (w0:=w0) p.1 env' xs st
     have hmf:frzL p.1 env' xs mem p.1= .row T n v ys true:=by rw [Zlz];exact hm
     rcases Zch stf hE (Zcz p.1 env' xs hM) hmf xs (fun as=>Plan.askT p.1 (v+1) (fun T' n' zs=>SpecT P G g as T n ys T' n' zs∧∀ r,r∈zs→∀ d,d∈r→∃ v,d= .v v)) Plan.bad with ⟨as,e,hl⟩|e
     ·rw [e]
      intro T' n' zs ⟨hspec,hflat⟩
      have hmut:(mem p.1).mut=true:=by rw [hm];rfl
      have hobf:=stf.obs p.1
      rw [hmf] at hobf
      have hstay:∀ b,Stay w0 I0 (frzL p.1 env' xs mem) bs w b→b< w.heap.size∧¬ Blk (bs p.1) b:=by
       intro b hb
       rcases hb with ⟨g1,g2⟩|⟨g1,g2,g3⟩
       ·exact⟨st.ltK g2,fun hb=>(hobf.block rfl b hb).1 g2⟩
       ·exact⟨g2,g3 p.1 (by rw [hmf];rfl)⟩
      have hob:=st.obs p.1
      rw [hm] at hob
      have hKK:∀ b,w0.K b→(Base.less w (bs p.1)).K b:=fun b hb=>⟨st.ltK hb,fun h=>(hob.block rfl b h).1 hb⟩
      obtain⟨cs,hown,hn,hcl,hrow,hden⟩:=hobf
      have hown2:ownsK (Base.less w (bs p.1)).K w T n (bs p.1) ys.length cs:=ZP hown.row fun k hk=>fun h=>h.2 (by
       rcases hown.2 with ⟨e3,_⟩|⟨g',cap',cur',e3,_⟩
       ·rw [e3] at hk;simp [Value.ownBlock] at hk
       ·rw [e3] at hk ⊢;simpa [Blk,Value.ownBlock] using hk)
      have hc:=hspec.2 w (Stay w0 I0 (frzL p.1 env' xs mem) bs w) (xs.map a.eval) (bs p.1) (fun w' hb=>hG w' ⟨hb.os,hb.tape,hb.output,hb.size,fun k hk=>hb.block k (hKK k hk)⟩) hstay
       ⟨cs,hown2,hn,hcl,hrow,hden⟩ hl
      refine ZK (f:=g) (args:=(xs.map a.eval).toArray) (w':=w) ?_ ?_
      ·have hrun:=hspec.1 (xs.map a.eval).toArray w
       simp only [execOp,ho,resolve,ef,Deferred.ofValue,Sem.run_bind,Sem.run_pure,Result.andThen_ok,invoke]
       simpa using hrun
      ·refine Calls.mono hc fun e w' ⟨y,he,⟨ds,hown',hn',hdl,hrow',hden'⟩,hb⟩=>⟨y,he,?_⟩
       have hb0:Bel w0.K w w':=⟨hb.os,hb.tape,hb.output,hb.size,fun k hk=>hb.block k (hKK k hk)⟩
       have hblky:∀ b,Blk y b→y.ownBlock=some b:=by
        intro b hby
        rcases hown'.2 with ⟨rfl,_⟩|⟨g',cap',cur',rfl,_⟩
        ·simp [Blk] at hby
        ·simpa [Blk,Value.ownBlock] using hby
       have hk:∀ k,k< w.heap.size→((mem p.1).mut=true→¬ Blk (bs p.1) k)→w'.heap[k]? =w.heap[k]? :=fun k hk hne=>hb.block k ⟨hk,hne hmut⟩
       have hx:∀ b,(Ob.row T' n' (v+1) zs true).mut=true→Blk y b→((mem p.1).mut=true∧Blk (bs p.1) b)∨(w.heap.size≤b∧b< w'.heap.size):=by
        intro b _ hby
        have hnk:=hown'.not (hblky b hby)
        have hlt:=hown'.lt (hblky b hby)
        by_cases hlt2:b< w.heap.size
        ·by_cases hbb:Blk (bs p.1) b
         ·exact .inl ⟨hmut,hbb⟩
         ·exact absurd ⟨hlt2,hbb⟩ hnk
        ·exact .inr ⟨Nat.le_of_not_lt hlt2,hlt⟩
       have hv:Turns mem bs p.1 (.row T' n' (v+1) zs true) y:= .inr (.inr (.inl ⟨T,n,v,ys,true,T',n',v+1,zs,true,hm,rfl,Nat.le_succ _,fun e=>by omega⟩))
       refine⟨upd bs p.1 y,st.update p.1 _ y hb0 hk hx hv rfl (fun q hq=>by simp [Ob.hs] at hq) ?_,⟨?_,fun T2 n2 xs2 own2 hm2=> ?_⟩,fun q hq=> ?_⟩
       ·refine⟨ds,ZP hown'.row fun k hk0=>fun hk1=>hown'.not hk0 (hKK k hk1),hn',hdl,hrow',fun i j r d hi hj=> ?_⟩
        obtain⟨z,hz,hd⟩:=hden' i j r d hi hj
        obtain⟨u,rfl⟩:=hflat r (List.mem_of_getElem? hi) d (List.mem_of_getElem? hj)
        refine⟨z,hz,?_⟩
        cases hd with
        |v _ hu=>exact .v _ hu
       ·rcases hown'.2 with ⟨rfl,_⟩|⟨g',cap',cur',rfl,_⟩<;>rfl
       ·rw [Zd]
       ·have:q=(p.1,v+1):=by simpa [AV.hs,S.hs,C.hs] using hq
        subst this
        exact⟨by simp only [Zd];rfl,by simp only [Zd];exact Nat.le_refl _⟩
     ·rw [e];trivial
    ·trivial
   ·trivial
  ·trivial
def planCallN (P:Program) (G:World→Prop) (env:Env) (mem:Mem) (dst:Option Nat) (f:Operand) (xs:List Operand):Plan:=
 match opd env f with
 | .val (.one (.d (.v (.func (.func g) first cap))))=>match first.toList,cap.toList with
  | [], []=>argAVs true (frzL 4294967295 env xs mem) env xs (fun as=> .askN (roomOf mem dst) (fun r=>∃ T n zs,r= .new T n zs∧SpecR P G g as T n zs∧∀ r,r∈zs→∀ d,d∈r→∃ v,d= .v v)) .bad
  |_,_=> .bad
 |_=> .bad
theorem ZgP (hG:G w) (st:St w0 I0 nt env mem bs a w) (hE:∀ t,env' t= .junk∨env' t=env t) (hM:∀ o,mem' o= .gone∨mem' o=mem o)
  (o:Oper) (dst:Option Nat) (f:Operand) (xs:List Operand) (ts:Array TypeId) (ho:o.op= .call { callee:= .value f,args:=⟨xs⟩,argTypes:=ts }) (hD:∀ d,dst=some d→mem' d=mem d):SoundPlan P w0 I0 nt env mem a w o (planCallN P G env' mem' dst f xs):=by
 obtain⟨h1,_⟩:=Zb st hE f
 unfold planCallN
 split
 ·rename_i g first cap hf
  rw [hf] at h1
  have ef:=Zg h1
  split
  ·rename_i e1 e2
   have e1':first=#[]:=by cases first;simpa using e1
   have e2':cap=#[]:=by cases cap;simpa using e2
   subst e1' e2'
   have stf:=St.frzL (w0:=w0) 4294967295 env' xs st
   rcases Zag true stf hE (Zcz 4294967295 env' xs hM) xs (fun as=>Plan.askN (roomOf mem' dst) (fun r=>∃ T n zs,r= .new T n zs∧SpecR P G g as T n zs∧∀ r,r∈zs→∀ d,d∈r→∃ v,d= .v v)) Plan.bad with ⟨as,e,hl⟩|e
   ·rw [e]
    refine⟨fun r hn h=>by obtain⟨T,n,zs,rfl,_⟩:=h;simp [AV.isNew] at hn,fun d hd T n zs h=> ?_⟩
    obtain⟨T2,n2,zs2,heq,hspec,hflat⟩:=h
    obtain⟨rfl,rfl,rfl⟩:T=T2∧n=n2∧zs=zs2:=by simpa using heq
    have hgone:mem d= .gone:=by
     unfold roomOf at hd
     split at hd
     ·rename_i d'
      split at hd
      ·rename_i hg
       obtain rfl:=Option.some.inj hd
       rw [← hD d' rfl];exact hg
      ·simp at hd
     ·simp at hd
    have hc:=hspec.2 w (Stay w0 I0 (frzL 4294967295 env' xs mem) bs w) (xs.map a.eval) hG (fun b hb=>by
     rcases hb with ⟨_,h⟩|⟨_,h,_⟩
     ·exact st.ltK h
     ·exact h) (hl _ _)
    refine ZK (f:=g) (args:=(xs.map a.eval).toArray) (w':=w) ?_ ?_
    ·have hrun:=hspec.1 (xs.map a.eval).toArray w
     simp only [execOp,ho,resolve,ef,Deferred.ofValue,Sem.run_bind,Sem.run_pure,Result.andThen_ok,invoke]
     simpa using hrun
    ·refine Calls.mono hc fun e w' ⟨x,he,hf,hb⟩=>⟨x,he,?_⟩
     exact Zca st hgone (Zev hf hflat) hb
   ·rw [e];trivial
  ·trivial
 ·trivial
end
theorem St.drew {w0:Base} {I0:Nat→Prop} {nt:Shape} {env:Env} {mem:Mem} {bs:Bs} {a:Act} {w:World} (st:St w0 I0 nt env mem bs a w):St w0 I0 nt env mem bs a { w with drawn:=w.drawn+1 }:=
 (st.grow (w':={ w with drawn:=w.drawn+1 }) ((Below.refl _ w).drew)).2
section
variable {P : Program} {w0 : Base} {I0 : Nat → Prop} {nt : Shape} {env env' : Env} {mem mem' : Mem} {bs : Bs} {a : Act} {w : World}
def fitsV:Value→Bool
 | .agg l=>l.toList.all flat
 |x=>flat x
def sOf:Value→S
 | .agg l=> .agg (l.toList.map fun y=> .d (.v y))
 |x=> .one (.d (.v x))
theorem ZhY (x:Value):(sOf x).hs= []:=by
 cases x<;>simp [sOf,S.hs,C.hs]
theorem ZeV {I:Nat→Prop} {x:Value} (h:fitsV x=true):DenS w I bs mem x (sOf x):=by
 have one:∀ y:Value,flat y=true→DenC w I bs mem y (.d (.v y)):=fun y hy=>Den.v y hy
 cases x with
 |agg l=>
  refine⟨l.toList,rfl,by simp,fun j c y hj hy=> ?_⟩
  rw [List.getElem?_map,hy] at hj
  obtain rfl:=(Option.some.inj hj).symm
  exact one y (List.all_eq_true.1 h y (List.mem_of_getElem? hy))
 |_=>first|exact one _ h|exact one _ rfl
theorem Zfd {o o':Obj} {b:Nat} (h:w.heap[b]? =some o):(Go.ChangeMaps.setBlock w b o').heap[b]? =some o':=by
 have hlt:b< w.heap.size:=(Array.getElem?_eq_some_iff.1 h).1
 simp [Go.ChangeMaps.setBlock,hlt]
theorem ZdL {o':Obj} {b k:Nat} (h:k≠b):(Go.ChangeMaps.setBlock w b o').heap[k]? =w.heap[k]? :=by
 simp [Go.ChangeMaps.setBlock,Ne.symm h]
theorem ZnS:∀ (l:List S),(∀ x,x∈l→x.hs= [])→(AV.tup l).hs= []:=fun _ h=>List.flatMap_eq_nil_iff.2 h
theorem ZcA (st:St w0 I0 nt env mem bs a w) {o:Nat} {lk:Option Nat} {x:Obj} (hm:mem o= .ext lk x):
  ∃ b bm,bs o= .pointer (some ⟨b,0,none⟩)∧¬ w0.K b∧(∀ m,lk=some m→bs m= .pointer (some ⟨bm,0,none⟩))∧w.heap[b]? =some (link x bm):=by
 have:=st.obs o
 rw [hm] at this
 exact this
theorem Zcb (st:St w0 I0 nt env mem bs a w) {o b:Nat} {lk:Option Nat} {x x':Obj} {y:Obj} (hm:mem o= .ext lk x) (hb:bs o= .pointer (some ⟨b,0,none⟩))
  (hy:∃ bm,(∀ m,lk=some m→bs m= .pointer (some ⟨bm,0,none⟩))∧y=link x' bm):
  St w0 I0 nt env (upd mem o (.ext lk x')) (upd bs o (bs o)) a (Go.ChangeMaps.setBlock w b y)∧∀ p,okh mem p→okh (upd mem o (.ext lk x')) p:=by
 obtain⟨b',bm',e1,hK,_,h4⟩:=ZcA st hm
 rw [hb] at e1
 obtain rfl:b'=b:=by
  have:=Value.pointer.inj e1
  have:=Option.some.inj this
  exact(congrArg Addr.block this).symm
 obtain⟨bm,hlk,rfl⟩:=hy
 have hlt:b'< w.heap.size:=(Array.getElem?_eq_some_iff.1 h4).1
 have hsz:(Go.ChangeMaps.setBlock w b' (link x' bm)).heap.size=w.heap.size:=by simp [Go.ChangeMaps.setBlock]
 have hbel:Bel w0.K w (Go.ChangeMaps.setBlock w b' (link x' bm)):=⟨rfl,rfl,rfl,by rw [hsz];exact Nat.le_refl _,fun k hk=>ZdL (fun e=>hK (e ▸ hk))⟩
 have hk:∀ k,k< w.heap.size→((mem o).mut=true→¬ Blk (bs o) k)→(Go.ChangeMaps.setBlock w b' (link x' bm)).heap[k]? =w.heap[k]? :=by
  intro k _ hh
  refine ZdL fun e=> ?_
  subst e
  exact hh (by rw [hm];rfl) (by rw [hb];rfl)
 have hx:∀ k,(Ob.ext lk x').mut=true→Blk (bs o) k→((mem o).mut=true∧Blk (bs o) k)∨(w.heap.size≤k∧k< (Go.ChangeMaps.setBlock w b' (link x' bm)).heap.size):=fun k _ hk=> .inl ⟨by rw [hm];rfl,hk⟩
 have hv:Turns mem bs o (.ext lk x') (bs o):= .inr (.inr (.inr (.inl ⟨rfl,lk,x,lk,x',hm,rfl⟩)))
 have hok:∀ p,okh mem p→okh (upd mem o (.ext lk x')) p:=fun p hp=>hv.okh rfl hp
 refine⟨st.update o (.ext lk x') (bs o) hbel hk hx hv rfl (fun p hp=>hok p (st.hmem o p (by rw [hm];exact hp))) ?_,hok⟩
 refine⟨b',bm,hb,hK,fun m hm'=> ?_,Zfd h4⟩
 by_cases e:m=o
 ·subst e;rw [Zd];exact hlk m hm'
 ·rw [ZG _ _ e];exact hlk m hm'
theorem ZlF (st:St w0 I0 nt env mem bs a w) {d bm:Nat} {lk:Option Nat} {x y:Obj} (hg:mem d= .gone) (hy:y=link x bm) (hlk:∀ m,lk=some m→bs m= .pointer (some ⟨bm,0,none⟩)∧okh mem (m,0)):
  ∃ bs',St w0 I0 nt env (upd mem d (.ext lk x)) bs' a (w.alloc y)∧bs' d= .pointer (some ⟨w.heap.size,0,none⟩)∧okh (upd mem d (.ext lk x)) (d,0):=by
 subst hy
 have hb:Bel w0.K w (w.alloc (link x bm)):=st.bel ((Below.refl _ w).alloc (Nat.le_refl _) _)
 have hx:∀ b,(Ob.ext lk x).mut=true→Blk (.pointer (some ⟨w.heap.size,0,none⟩)) b→((mem d).mut=true∧Blk (bs d) b)∨(w.heap.size≤b∧b< (w.alloc (link x bm)).heap.size):=by
  intro b _ hbx
  simp only [Blk] at hbx
  subst hbx
  exact .inr ⟨Nat.le_refl _,by simp⟩
 have hk:∀ k,k< w.heap.size→((mem d).mut=true→¬ Blk (bs d) k)→(w.alloc (link x bm)).heap[k]? =w.heap[k]? :=fun k hk _=>Below.heap_alloc _ _ _ hk
 have hv:Turns mem bs d (.ext lk x) (.pointer (some ⟨w.heap.size,0,none⟩)):= .inl (by rw [hg];rfl)
 have hok:∀ p,okh mem p→okh (upd mem d (.ext lk x)) p:=fun p hp=>hv.okh rfl hp
 refine⟨upd bs d (.pointer (some ⟨w.heap.size,0,none⟩)),st.update d (.ext lk x) _ hb hk hx hv rfl ?_ ?_,Zd _ _ _,⟨by simp only [Zd];rfl,by simp only [Zd];exact Nat.zero_le _⟩⟩
 ·intro p hp
  cases lk with
  |none=>simp [Ob.hs] at hp
  |some m=>
   have:p=(m,0):=by simpa [Ob.hs] using hp
   subst this
   exact hok _ (hlk m rfl).2
 ·refine⟨w.heap.size,bm,rfl,st.newK (Nat.le_refl _),fun m hm=> ?_,heap_alloc_new w _⟩
  have h1:=(hlk m hm).2.1
  have hne:m≠d:=fun e=>by subst e;simp only [hg] at h1;simp [Ob.live] at h1
  rw [ZG _ _ hne];exact(hlk m hm).1
theorem Zc3 (hM:∀ o,mem' o= .gone∨mem' o=mem o) {o:Nat} {lk:Option Nat} {x:Obj} (h:mem' o= .ext lk x):mem o= .ext lk x:=by
 rcases hM o with e|e
 ·rw [e] at h;simp at h
 ·rw [← e];exact h
theorem den_undef' {I:Nat→Prop}:DenAV w I bs mem undef (.tup []):=⟨[],rfl,rfl,fun j s y hs=>by simp at hs⟩
def planMakeMap (mem:Mem) (dst:Option Nat) (n:Option Operand):Plan:=
 match n,dst with
 |none,some d=>match mem d with
  | .gone=> .put (.val (.one (.mp d))) d (.ext none (.map #[] 0))
  |_=> .bad
 |_,_=> .bad
theorem ZeM (st:St w0 I0 nt env mem bs a w) (o:Oper) (T:TypeId) (n:Option Operand) (ho:o.op= .makeMap T n) (hD:∀ d,o.dst=some d→mem' d=mem d):SoundPlan P w0 I0 nt env mem a w o (planMakeMap mem' o.dst n):=by
 unfold planMakeMap
 split
 ·rename_i d hd
  split
  ·rename_i hg
   rw [hD d hd] at hg
   obtain⟨bs',st',hb,hok⟩:=ZlF st (d:=d) (bm:=0) (lk:=none) (x:= .map #[] 0) (y:= .map #[] 0) hg rfl (fun m hm=>by simp at hm)
   refine Za (.map (some w.heap.size)) (w':=w.alloc (.map #[] 0)) ?_ ⟨bs',st',⟨w.heap.size,hb,rfl⟩,fun p hp=> ?_⟩
   ·simp [execOp,ho,Instr.makeMap,Result.andThen]
   ·have:p=(d,0):=by simpa [AV.hs,S.hs,C.hs] using hp
    subst this;exact hok
  ·trivial
 ·trivial
def planRange (P:Program) (env:Env) (mem:Mem) (dst:Option Nat) (T:TypeId) (x:Operand):Plan:=
 match dst with
 |some d=>match opd env x with
  | .val (.one (.mp m))=>match mem d with
   | .gone=>match mem m with
    | .ext none (.map _ clock)=> .putIf (∃ k e,P.underlying T=some (.map k e)) (.val (.one (.ptr d 0))) d (.ext (some m) (.mapIter none clock #[] clock))
    |_=> .bad
   |_=> .bad
  |_=> .bad
 |none=> .bad
theorem ZgH (st:St w0 I0 nt env mem bs a w) (hE:∀ t,env' t= .junk∨env' t=env t) (hM:∀ o,mem' o= .gone∨mem' o=mem o) (o:Oper) (T:TypeId) (x:Operand) (ho:o.op= .range T x) (hD:∀ d,o.dst=some d→mem' d=mem d):
  SoundPlan P w0 I0 nt env mem a w o (planRange P env' mem' o.dst T x):=by
 obtain⟨h1,h2⟩:=Zb st hE x
 unfold planRange
 split
 ·rename_i d hd
  split
  ·rename_i m hx
   rw [hx] at h1 h2
   split
   ·rename_i hg
    rw [hD d hd] at hg
    split
    ·rename_i es clock hm
     have hm':=Zc3 hM hm
     intro ⟨k,e,hT⟩
     obtain⟨b,hb,ex⟩:=h1
     obtain⟨b',bm,g1,g2,_,g4⟩:=ZcA st hm'
     obtain rfl:b'=b:=by
      rw [hb] at g1
      have:=Value.pointer.inj g1
      have:=Option.some.inj this
      exact(congrArg Addr.block this).symm
     obtain⟨bs',st',hb',hok⟩:=ZlF st (d:=d) (bm:=b') (lk:=some m) (x:= .mapIter none clock #[] clock) (y:= .mapIter (some b') clock #[] clock) hg rfl
      (fun m' hm'=>by obtain rfl:=Option.some.inj hm';exact⟨hb,h2 (m,0) (by simp [AV.hs,S.hs,C.hs])⟩)
     refine Za (.pointer (some ⟨w.heap.size,0,none⟩)) (w':=w.alloc (.mapIter (some b') clock #[] clock)) ?_ ⟨bs',st',⟨w.heap.size,hb',rfl⟩,fun p hp=> ?_⟩
     ·have:=run_range_map (P:=P) w T k e b' es clock hT g4
      simp only [execOp,ho,ex,Sem.run_bind,this,Result.andThen_ok,Sem.run_pure]
     ·have:p=(d,0):=by simpa [AV.hs,S.hs,C.hs] using hp
      subst this;exact hok
    ·trivial
   ·trivial
  ·trivial
 ·trivial
def MapStep {α:Type} (P:Program) (i:Value→Sem α) (r:α) (x y:Obj):Prop:=∀ (w:World) (b:Nat),w.heap[b]? =some x→(i (.map (some b))).run P w= .ok r (Go.ChangeMaps.setBlock w b y)
def planMapUpdate (P:Program) (env:Env) (mem:Mem) (T:TypeId) (m k v:Operand):Plan:=
 match opd env m with
 | .val (.one (.mp o))=>match mem o with
  | .ext none (.map es clock)=>valK (opd env k) (fun kv=>valK (opd env v) (fun vv=> .askE o none fun r y=>r= .tup []∧∃ es' clock',y= .map es' clock'∧MapStep P (fun m=>Instr.mapUpdate T m kv vv) () (.map es clock) (.map es' clock')) .bad) .bad
  |_=> .bad
 |_=> .bad
theorem Zds (st:St w0 I0 nt env mem bs a w) (hE:∀ t,env' t= .junk∨env' t=env t) (hM:∀ o,mem' o= .gone∨mem' o=mem o) (o:Oper) (T:TypeId) (m k v:Operand) (ho:o.op= .mapUpdate T m k v):
  SoundPlan P w0 I0 nt env mem a w o (planMapUpdate P env' mem' T m k v):=by
 obtain⟨h1,h2⟩:=Zb st hE m
 obtain⟨k1,_⟩:=Zb st hE k
 obtain⟨v1,_⟩:=Zb st hE v
 unfold planMapUpdate
 split
 ·rename_i q hx
  rw [hx] at h1 h2
  split
  ·rename_i es clock hm
   have hm':=Zc3 hM hm
   rcases ZaI (opd env' k) (fun kv=>valK (opd env' v) (fun vv=>Plan.askE q none fun r y=>r= .tup []∧∃ es' clock',y= .map es' clock'∧MapStep P (fun m=>Instr.mapUpdate T m kv vv) () (.map es clock) (.map es' clock')) .bad) .bad with ⟨kv,e1,g1⟩|e1
   ·rw [e1]
    rcases ZaI (opd env' v) (fun vv=>Plan.askE q none fun r y=>r= .tup []∧∃ es' clock',y= .map es' clock'∧MapStep P (fun m=>Instr.mapUpdate T m kv vv) () (.map es clock) (.map es' clock')) .bad with ⟨vv,e2,g2⟩|e2
    ·rw [e2]
     intro r y ⟨hr,es',clock',hy,hs⟩
     subst hr;subst hy
     obtain⟨b,hb,ex⟩:=h1
     obtain⟨b',bm,f1,f2,_,f4⟩:=ZcA st hm'
     obtain rfl:b'=b:=by
      rw [hb] at f1
      have:=Value.pointer.inj f1
      have:=Option.some.inj this
      exact(congrArg Addr.block this).symm
     obtain⟨st',hok⟩:=Zcb st (x':= .map es' clock') (y:= .map es' clock') hm' hb ⟨0,fun m hm=>by simp at hm,rfl⟩
     refine ZbC (w':=Go.ChangeMaps.setBlock w b' (.map es' clock')) ?_ ⟨_,st',den_undef',fun p hp=>by simp [AV.hs] at hp⟩
     have:=hs w b' f4
     have ek:=g1 _ _ _ _ _ k1
     have ev:=g2 _ _ _ _ _ v1
     simp only [execOp,ho,ex,ek,ev,Sem.run_bind,this,Result.andThen_ok,Sem.run_pure]
    ·rw [e2];trivial
   ·rw [e1];trivial
  ·trivial
 ·trivial
def planDelete (P:Program) (env:Env) (mem:Mem) (ty:TypeId) (ts:List TypeId) (xs:List Operand):Plan:=
 match xs with
 | [m,k]=>match opd env m with
  | .val (.one (.mp o))=>match mem o with
   | .ext none (.map es clock)=>valK (opd env k) (fun kv=> .askE o none fun r y=>r= .tup []∧∃ es' clock',y= .map es' clock'∧MapStep P (fun m=>Builtin.delete_ ⟨ts⟩ ty #[m,kv]) undef (.map es clock) (.map es' clock')) .bad
   |_=> .bad
  |_=> .bad
 |_=> .bad
theorem ZfI (st:St w0 I0 nt env mem bs a w) (hE:∀ t,env' t= .junk∨env' t=env t) (hM:∀ o,mem' o= .gone∨mem' o=mem o) (o:Oper) (xs:List Operand) (ts:List TypeId) (ho:o.op= .call { callee:= .builtin .delete,args:=⟨xs⟩,argTypes:=⟨ts⟩ }):
  SoundPlan P w0 I0 nt env mem a w o (planDelete P env' mem' o.type ts xs):=by
 unfold planDelete
 split
 ·rename_i m k
  obtain⟨h1,h2⟩:=Zb st hE m
  obtain⟨k1,_⟩:=Zb st hE k
  split
  ·rename_i q hx
   rw [hx] at h1 h2
   split
   ·rename_i es clock hm
    have hm':=Zc3 hM hm
    rcases ZaI (opd env' k) (fun kv=>Plan.askE q none fun r y=>r= .tup []∧∃ es' clock',y= .map es' clock'∧MapStep P (fun m=>Builtin.delete_ ⟨ts⟩ o.type #[m,kv]) undef (.map es clock) (.map es' clock')) .bad with ⟨kv,e1,g1⟩|e1
    ·rw [e1]
     intro r y ⟨hr,es',clock',hy,hs⟩
     subst hr;subst hy
     obtain⟨b,hb,ex⟩:=h1
     obtain⟨b',bm,f1,f2,_,f4⟩:=ZcA st hm'
     obtain rfl:b'=b:=by
      rw [hb] at f1
      have:=Value.pointer.inj f1
      have:=Option.some.inj this
      exact(congrArg Addr.block this).symm
     obtain⟨st',hok⟩:=Zcb st (x':= .map es' clock') (y:= .map es' clock') hm' hb ⟨0,fun m hm=>by simp at hm,rfl⟩
     refine Za undef (w':=Go.ChangeMaps.setBlock w b' (.map es' clock')) (Zp ho ?_) ⟨_,st',den_undef',fun p hp=>by simp [AV.hs] at hp⟩
     have:=hs w b' f4
     have ek:=g1 _ _ _ _ _ k1
     simp only [builtin,List.map_toArray,List.map_cons,List.map_nil,ex,ek,Sem.run_bind,this,Result.andThen_ok,Sem.run_pure]
    ·rw [e1];trivial
   ·trivial
  ·trivial
 ·trivial
def planLenM (P:Program) (TB:List (Nat×Ty)) (env:Env) (mem:Mem) (ts:List TypeId) (xs:List Operand):Plan:=
 match xs,ts with
 | [x],t :: _=>match opd env x with
  | .val (.one (.mp o))=>match mem o with
   | .ext none (.map es _)=> .ask fun r=>(∃ k e,P.underlying t=some (.map k e))∧r=one (.int .i64 (es.size:Int))
   |_=> .bad
  |_=>planLenX TB env mem ts xs
 |_,_=>planLenX TB env mem ts xs
theorem ZiP {TB:List (Nat×Ty)} (hTB:TBok P TB) (st:St w0 I0 nt env mem bs a w) (hE:∀ t,env' t= .junk∨env' t=env t) (hM:∀ o,mem' o= .gone∨mem' o=mem o)
  (o:Oper) (xs:List Operand) (ts:List TypeId) (ho:o.op= .call { callee:= .builtin .len,args:=⟨xs⟩,argTypes:=⟨ts⟩ }):SoundPlan P w0 I0 nt env mem a w o (planLenM P TB env' mem' ts xs):=by
 have base:=ZiO (P:=P) hTB st hE hM o xs ts ho
 unfold planLenM
 split
 ·rename_i x t ts'
  split
  ·rename_i q hx
   obtain⟨h1,_⟩:=Zb st hE x
   rw [hx] at h1
   split
   ·rename_i es clock hm
    have hm':=Zc3 hM hm
    intro r ⟨⟨k,e,hT⟩,hr⟩
    subst hr
    obtain⟨b,hb,ex⟩:=h1
    obtain⟨b',bm,f1,f2,_,f4⟩:=ZcA st hm'
    obtain rfl:b'=b:=by
     rw [hb] at f1
     have:=Value.pointer.inj f1
     have:=Option.some.inj this
     exact(congrArg Addr.block this).symm
    refine Za (.int .i64 (es.size:Int)) (Zp ho ?_) (Zc st (Den.v _ rfl) (fun p hp=>by simp [one,AV.hs,S.hs,C.hs] at hp))
    have hr:(Builtin.len_ ⟨t :: ts'⟩ o.type #[a.eval x]).run P w= .ok (.int .i64 (es.size:Int)) w:=by
     rw [ex]
     simp [Builtin.len_,run_underlying hT,Go.MapKept.run_getObj_map (es:=es) (clock:=clock) f4,goInt,Result.andThen]
    simp only [builtin,Sem.run_bind,List.map_toArray,List.map_cons,List.map_nil,hr,Result.andThen_ok,Sem.run_pure]
   ·trivial
  ·exact base
 ·exact base
def NextIs (es:Array MapEntry) (clock since last:Nat) (seen:Array Nat) (r:AV) (y:Obj):Prop:=
 ((leftOf es seen).size=0∧r= .tup [.one (.d (.v (.bool false)))]∧y= .mapIter none since seen last)∨
 ∃ e,e∈(leftOf es seen).toList∧r= .tup [.one (.d (.v (.bool true))),sOf e.key,sOf e.val]∧y= .mapIter none since (seen.push e.born) clock
def planNext (env:Env) (mem:Mem) (x:Operand) (str:Bool):Plan:=
 match str,opd env x with
 |false,.val (.one (.ptr r 0))=>match mem r with
  | .ext (some m) (.mapIter none since seen last)=>match mem m with
   | .ext none (.map es clock)=> .dem ((∀ e,e∈es.toList→e.born< since∧fitsV e.key=true∧fitsV e.val=true)∧since≤last) r (some m) (NextIs es clock since last seen)
   |_=> .bad
  |_=> .bad
 |_,_=> .bad
theorem ZiM (st:St w0 I0 nt env mem bs a w) (hE:∀ t,env' t= .junk∨env' t=env t) (hM:∀ o,mem' o= .gone∨mem' o=mem o) (o:Oper) (x:Operand) (str:Bool) (ho:o.op= .next x str):
  SoundPlan P w0 I0 nt env mem a w o (planNext env' mem' x str):=by
 obtain⟨h1,h2⟩:=Zb st hE x
 unfold planNext
 split
 ·rename_i r hx
  rw [hx] at h1 h2
  split
  ·rename_i m since seen last hr
   have hr':=Zc3 hM hr
   split
   ·rename_i es clock hm
    have hm':=Zc3 hM hm
    intro ⟨hes,hsl⟩
    obtain⟨b,hb,ex⟩:=h1
    obtain⟨b',bm,f1,f2,f3,f4⟩:=ZcA st hr'
    obtain rfl:b'=b:=by
     rw [hb] at f1
     have:=Value.pointer.inj f1
     have:=Option.some.inj this
     exact(congrArg Addr.block this).symm
    obtain⟨bb,bm2,g1,g2,_,g4⟩:=ZcA st hm'
    obtain rfl:bb=bm:=by
     rw [f3 m rfl] at g1
     have:=Value.pointer.inj g1
     have:=Option.some.inj this
     exact(congrArg Addr.block this).symm
    have hd:∀ e,e∈(leftOf es seen).toList→e∈es.toList:=fun e he=>(mem_left he).1
    rcases run_next_at (P:=P) w o.type b' bb since last seen es clock f4 g4 (fun e he=>(hes e he).1) hsl with ⟨h0,hrun⟩|⟨e,he,w1,hw,hrun⟩
    ·have hmem:upd mem r (.ext (some m) (.mapIter none since seen last))=mem:=by
      funext i
      by_cases e:i=r
      ·subst e;rw [Zd,hr']
      ·rw [ZG _ _ e]
     refine Za (.tuple #[.bool false]) (w':=w) ?_ ⟨.tup [.one (.d (.v (.bool false)))],.mapIter none since seen last,.inl ⟨h0,rfl,rfl⟩,rfl,?_⟩
     ·simp only [execOp,ho,ex,Sem.run_bind,hrun,Result.andThen_ok,Sem.run_pure]
     ·rw [hmem]
      refine⟨bs,st,⟨[.bool false],rfl,rfl,fun j s y hs hy=> ?_⟩,fun p hp=>by simp [AV.hs,S.hs,C.hs] at hp⟩
      cases j with
      |zero=>
       obtain rfl:=Option.some.inj hs
       obtain rfl:=Option.some.inj hy
       exact Den.v _ rfl
      |succ j=>simp at hs
    ·have st1:St w0 I0 nt env mem bs a w1:=by
      rcases hw with rfl|rfl
      ·exact st
      ·exact st.drew
     obtain⟨st',hok⟩:=Zcb st1 (x':= .mapIter none since (seen.push e.born) clock) (y:= .mapIter (some bb) since (seen.push e.born) clock) hr' hb ⟨bb,f3,rfl⟩
     refine Za (.tuple #[.bool true,e.key,e.val]) (w':=Go.ChangeMaps.setBlock w1 b' (.mapIter (some bb) since (seen.push e.born) clock)) ?_
      ⟨.tup [.one (.d (.v (.bool true))),sOf e.key,sOf e.val],.mapIter none since (seen.push e.born) clock,.inr ⟨e,he,rfl,rfl⟩,rfl,_,st',⟨[.bool true,e.key,e.val],rfl,rfl,fun j s y hs hy=> ?_⟩,fun p hp=> ?_⟩
     ·simp only [execOp,ho,ex,Sem.run_bind,hrun,Result.andThen_ok,Sem.run_pure]
     ·obtain⟨_,q1,q2⟩:=hes e (hd e he)
      rcases j with _|_|_|j
      ·obtain rfl:=Option.some.inj hs
       obtain rfl:=Option.some.inj hy
       exact Den.v _ rfl
      ·obtain rfl:=Option.some.inj hs
       obtain rfl:=Option.some.inj hy
       exact ZeV q1
      ·obtain rfl:=Option.some.inj hs
       obtain rfl:=Option.some.inj hy
       exact ZeV q2
      ·simp at hs
     ·rw [ZnS _ (fun x hx=>by
       rcases List.mem_cons.1 hx with rfl|hx
       ·rfl
       ·rcases List.mem_cons.1 hx with rfl|hx
        ·exact ZhY _
        ·rcases List.mem_cons.1 hx with rfl|hx
         ·exact ZhY _
         ·simp at hx)] at hp
      simp at hp
   ·trivial
  ·trivial
 ·trivial
def planEntry (env:Env) (mem:Mem) (x:Operand):Plan:=
 match opd env x with
 | .val (.one (.ptr r 0))=>match mem r with
  | .ext (some m) (.mapIter none _ seen last)=>match mem m with
   | .ext none (.map es clock)=> .ask fun v=>∃ (seen':Array Nat) (e:MapEntry),seen=seen'.push e.born∧last=clock∧e∈es.toList∧(es.toList.map (·.born)).Nodup∧fitsV e.key=true∧fitsV e.val=true∧v= .tup [sOf e.key,sOf e.val]
   |_=> .bad
  |_=> .bad
 |_=> .bad
theorem ZgJ (st:St w0 I0 nt env mem bs a w) (hE:∀ t,env' t= .junk∨env' t=env t) (hM:∀ o,mem' o= .gone∨mem' o=mem o) (o:Oper) (x:Operand) (ho:o.op= .entry x):
  SoundPlan P w0 I0 nt env mem a w o (planEntry env' mem' x):=by
 obtain⟨h1,h2⟩:=Zb st hE x
 unfold planEntry
 split
 ·rename_i r hx
  rw [hx] at h1 h2
  split
  ·rename_i m since seen last hr
   have hr':=Zc3 hM hr
   split
   ·rename_i es clock hm
    have hm':=Zc3 hM hm
    intro v ⟨seen',e,hseen,hlast,he,hnd,q1,q2,hv⟩
    subst hv;subst hseen;subst hlast
    obtain⟨b,hb,ex⟩:=h1
    obtain⟨b',bm,f1,f2,f3,f4⟩:=ZcA st hr'
    obtain rfl:b'=b:=by
     rw [hb] at f1
     have:=Value.pointer.inj f1
     have:=Option.some.inj this
     exact(congrArg Addr.block this).symm
    obtain⟨bb,bm2,g1,g2,_,g4⟩:=ZcA st hm'
    obtain rfl:bb=bm:=by
     rw [f3 m rfl] at g1
     have:=Value.pointer.inj g1
     have:=Option.some.inj this
     exact(congrArg Addr.block this).symm
    have hrun:=run_entry_at (P:=P) w b' bb since seen' es _ e f4 g4 he hnd
    refine Za (.tuple #[e.key,e.val]) ?_ (Zc st ⟨[e.key,e.val],rfl,rfl,fun j s y hs hy=> ?_⟩ fun p hp=> ?_)
    ·simp only [execOp,ho,ex,Sem.run_bind,hrun,Result.andThen_ok,Sem.run_pure]
    ·rcases j with _|_|j
     ·obtain rfl:=Option.some.inj hs
      obtain rfl:=Option.some.inj hy
      exact ZeV q1
     ·obtain rfl:=Option.some.inj hs
      obtain rfl:=Option.some.inj hy
      exact ZeV q2
     ·simp at hs
    ·rw [ZnS _ (fun x hx=>by
      rcases List.mem_cons.1 hx with rfl|hx
      ·exact ZhY _
      ·rcases List.mem_cons.1 hx with rfl|hx
       ·exact ZhY _
       ·simp at hx)] at hp
     simp at hp
   ·trivial
  ·trivial
 ·trivial
end
section
variable {P : Program} {w0 : Base} {I0 : Nat → Prop} {nt : Shape} {env env' : Env} {mem mem' : Mem} {bs : Bs} {a : Act} {w : World}
theorem Zhx {v v':Value} {l l':List Value} (h:Value.agg (v :: l).toArray= .agg (v' :: l').toArray):v=v'∧l=l':=by
 have:=congrArg Array.toList (Value.agg.inj h)
 simpa using this
theorem ZbS (hM:∀ o,mem' o= .gone∨mem' o=mem o) {o T n q Te ne c ko ki:Nat} {xs:List (List D)} {pd:Option (Nat×List (List D))} (h:mem' o= .mat T n q Te ne c ko ki xs pd):mem o= .mat T n q Te ne c ko ki xs pd:=by
 rcases hM o with e|e
 ·rw [e] at h;simp at h
 ·rw [← e];exact h
theorem St.kin (st:St w0 I0 nt env mem bs a w) {o T n q Te ne c ko ki:Nat} {xs:List (List D)} {pd:Option (Nat×List (List D))} (hm:mem o= .mat T n q Te ne c ko ki xs pd):ki≤(mem o).ver:=by
 have:=st.obs o
 rw [hm] at this ⊢
 exact this.1.2
theorem Zb3 (st:St w0 I0 nt env mem bs a w) {o k T n q Te ne c ko ki:Nat} {xs:List (List D)} {pd:Option (Nat×List (List D))} {h:MH} {x:Value} (hm:mem o= .mat T n q Te ne c ko ki xs pd)
  (hd:DenC w (Stay w0 I0 mem bs w) bs mem x (.m o k h)) (hk:k=(bif h.inner then ki else ko)):
  ∃ v ins ys,bs o= .agg (v :: ins).toArray∧MatOk w0.K w (Stay w0 I0 mem bs w) v ins ys T n q Te ne xs pd∧MDen w (Stay w0 I0 mem bs w) v ins n q ne x h:=by
 obtain⟨v,ins,e,hd'⟩:=hd.2 _ _ _ _ _ _ _ _ _ _ hm hk
 have hob:=st.obs o
 rw [hm] at hob
 obtain⟨_,v',ins',ys,e',M⟩:=hob
 rw [e] at e'
 obtain⟨rfl,rfl⟩:=Zhx e'
 exact⟨v,ins,ys,e,M,hd'⟩
theorem m_mk {o k T n q Te ne c ko ki:Nat} {xs:List (List D)} {pd:Option (Nat×List (List D))} {h:MH} {x:Value} {I:Nat→Prop} (hm:mem o= .mat T n q Te ne c ko ki xs pd) (hf:flat x=true) {v:Value} {ins:List Value}
  (hb:bs o= .agg (v :: ins).toArray) (hd:MDen w I v ins n q ne x h):DenC w I bs mem x (.m o k h):=by
 refine⟨hf,fun T' n' q' Te' ne' c' ko' ki' xs' pd' hm' hk=> ?_⟩
 rw [hm] at hm'
 injection hm' with e1 e2 e3 e4 e5 e6 e7 e8 e9 e10
 subst e2 e3 e5
 exact⟨v,ins,hb,hd⟩
theorem Zbx {K:Nat→Prop} {e size n:Nat} {v:Value} {xs:List Value} (h:ownsK K w e size v n xs) (hn:0< n):
  ∃ g cap cur,v= .slice (some ⟨g,0,none⟩) n cap∧¬ K g∧w.heap[g]? =some (.cells cur e (0,0))∧n≤cap∧cap≤maxLen∧cur.size=cap*size∧cur.toList.take (n*size)=xs:=by
 rcases h.2 with ⟨_,h0⟩|h2
 ·omega
 ·exact h2
def planLen2 (P:Program) (TB:List (Nat×Ty)) (env:Env) (mem:Mem) (ts:List TypeId) (xs:List Operand):Plan:=
 match xs,ts with
 | [x],t :: _=>match opd env x with
  | .val (.one (.m o k .out))=>match mem o with
   | .mat _ _ _ _ _ _ ko _ ys _=>bif Nat.beq k ko then .ask fun r=>(∃ e,P.underlying t=some (.slice e))∧r=one (.int .i64 (ys.length:Int)) else .bad
   |_=> .bad
  |_=>planLenM P TB env mem ts xs
 |_,_=>planLenM P TB env mem ts xs
theorem ZiQ {TB:List (Nat×Ty)} (hTB:TBok P TB) (st:St w0 I0 nt env mem bs a w) (hE:∀ t,env' t= .junk∨env' t=env t) (hM:∀ o,mem' o= .gone∨mem' o=mem o)
  (o:Oper) (xs:List Operand) (ts:List TypeId) (ho:o.op= .call { callee:= .builtin .len,args:=⟨xs⟩,argTypes:=⟨ts⟩ }):SoundPlan P w0 I0 nt env mem a w o (planLen2 P TB env' mem' ts xs):=by
 have base:=ZiP (P:=P) hTB st hE hM o xs ts ho
 unfold planLen2
 split
 ·rename_i x t ts'
  split
  ·rename_i q k hx
   obtain⟨h1,_⟩:=Zb st hE x
   rw [hx] at h1
   split
   ·rename_i T n j Te ne c ko ki ys pd hm
    cases hk:Nat.beq k ko with
    |false=>trivial
    |true=>
     obtain rfl:=Nat.eq_of_beq_eq_true hk
     intro r ⟨⟨e,hu⟩,hr⟩
     subst hr
     obtain⟨v,ins,zs,hb,M,hd⟩:=Zb3 st (ZbS hM hm) h1 rfl
     obtain rfl:a.eval x=v:=hd
     have hsl:∃ ad cp,a.eval x= .slice ad ys.length cp:=by
      rcases M.own.2 with ⟨e1,e2⟩|⟨g,cap,cur,e1,_⟩
      ·exact⟨_,_,by rw [e1,e2]⟩
      ·exact⟨_,_,e1⟩
     obtain⟨ad,cp,ex⟩:=hsl
     refine Za (.int .i64 (ys.length:Int)) (Zp ho ?_) (Zc st (Den.v _ rfl) (fun p hp=>by simp [one,AV.hs,S.hs,C.hs] at hp))
     have hr:=ZaG (P:=P) (ts:=ts') (ty:=o.type) hu ex w
     simp only [builtin,Sem.run_bind,List.map_toArray,List.map_cons,List.map_nil,hr,Result.andThen_ok,Sem.run_pure]
   ·trivial
  ·exact base
 ·exact base
def planIdx2 (TB:List (Nat×Ty)) (env:Env) (mem:Mem) (T:TypeId) (x i:Operand):Plan:=
 match opd env x with
 | .val (.one (.m o k h))=>match mem o,look TB T with
  | .mat _ n q _ ne _ ko ki xs pd,some ty=>match ty.arr,ty.elem with
   |none,some e=>match look TB e with
    |some te=>match h with
     | .out=>bif Nat.beq k ko&&Nat.beq n te.size then intK (opd env i) (fun m=> .ask fun r=>0≤m∧m< (xs.length:Int)∧r= .val (.one (.m o k (.cell m.toNat 0)))) .bad else .bad
     | .inn j=>bif Nat.beq k ki&&Nat.beq ne te.size then intK (opd env i) (fun m=> .ask fun r=>0≤m∧(∃ c,contAt xs q pd j=some c∧m< (c.length:Int))∧r= .val (.one (.m o k (.icell j m.toNat)))) .bad else .bad
     |_=> .bad
    |none=> .bad
   |_,_=> .bad
  |_,_=> .bad
 |_=>planIndexAddrX TB env mem T x i
theorem Zkl {e:Nat} {te:Ty} {ei:TypeInfo} {eu:TypeDesc} {ez:Value} (hei:TyIs P e te ei eu ez) {T:TypeId} (hu:P.underlying T=some (.slice e)) {b len cap:Nat} {kd:IntKind} {m:Int} (h0:0≤m) (h1:m< (len:Int)) (w:World):
  (Instr.indexAt T (.slice (some ⟨b,0,none⟩) len cap) (.int kd m)).run P w= .ok (.pointer (some ⟨b,m.toNat*te.size,none⟩)) w:=by
 have hs:∀ w,(sizeOf e).run P w= .ok te.size w:=fun w=>hei.run_size w
 have hle:0≤m∧m< (len:Int):=⟨h0,h1⟩
 simp only [Instr.indexAt,asIntOf,Sem.run_bind,Sem.run_pure,Result.andThen_ok,run_underlying hu]
 simp only [hle,and_self,if_true,Sem.run_bind,hs,Result.andThen_ok,Sem.run_pure,Addr.add_lit,Nat.zero_add]
theorem ZiR {TB:List (Nat×Ty)} (hTB:TBok P TB) (st:St w0 I0 nt env mem bs a w) (hE:∀ t,env' t= .junk∨env' t=env t) (hM:∀ o,mem' o= .gone∨mem' o=mem o)
  (o:Oper) (T:TypeId) (x i:Operand) (ho:o.op= .indexAddr T x i):SoundPlan P w0 I0 nt env mem a w o (planIdx2 TB env' mem' T x i):=by
 unfold planIdx2
 split
 ·rename_i ob k h hx
  obtain⟨h1,h2⟩:=Zb st hE x
  rw [hx] at h1 h2
  have hh:∀ p,p∈(AV.val (.one (.m ob k h))).hs→okh mem p:=h2
  split
  ·rename_i T0 n q Te ne c ko ki xs pd ty hm hty
   have hm':=ZbS hM hm
   obtain⟨ti,tu,tz,hi⟩:=Zj (hTB T ty (Ze hty))
   split
   ·rename_i e har he
    split
    ·rename_i te hte
     obtain⟨ei,eu,ez,hei⟩:=Zj (hTB e te (Ze hte))
     have hu:=hi.slice he
     split
     ·cases hc:(Nat.beq k ko&&Nat.beq n te.size) with
      |false=>trivial
      |true=>
       simp only [Bool.and_eq_true] at hc
       obtain rfl:=Nat.eq_of_beq_eq_true hc.1
       have hn:=Nat.eq_of_beq_eq_true hc.2
       simp only [cond_true]
       rcases Zx (opd env' i) (fun m=>Plan.ask fun r=>0≤m∧m< (xs.length:Int)∧r= .val (.one (.m ob k (.cell m.toNat 0)))) Plan.bad with ⟨kd,m,g1,g2⟩|g2
       ·rw [g2]
        intro r ⟨p0,p1,hr⟩
        subst hr
        obtain⟨f1,_⟩:=Zb st hE i
        rw [g1] at f1
        have em:=Zg f1
        obtain⟨v,ins,ys,hb,M,hd⟩:=Zb3 st hm' h1 rfl
        obtain rfl:a.eval x=v:=hd
        obtain⟨g,cap,cur,ex,_⟩:=Zbx M.own (by omega)
        refine Za (.pointer (some ⟨g,m.toNat*te.size,none⟩)) ?_ (Zc st (m_mk hm' rfl hb ⟨g,_,_,ex,by rw [hn];rfl⟩) (fun p hp=>hh p (by simpa [AV.hs,S.hs,C.hs] using hp)))
        simp only [execOp,ho,ex,em,Sem.run_bind,Zkl hei hu p0 p1,Result.andThen_ok,Sem.run_pure]
       ·rw [g2];trivial
     ·rename_i j
      cases hc:(Nat.beq k ki&&Nat.beq ne te.size) with
      |false=>trivial
      |true=>
       simp only [Bool.and_eq_true] at hc
       obtain rfl:=Nat.eq_of_beq_eq_true hc.1
       have hn:=Nat.eq_of_beq_eq_true hc.2
       simp only [cond_true]
       rcases Zx (opd env' i) (fun m=>Plan.ask fun r=>0≤m∧(∃ c,contAt xs q pd j=some c∧m< (c.length:Int))∧r= .val (.one (.m ob k (.icell j m.toNat)))) Plan.bad with ⟨kd,m,g1,g2⟩|g2
       ·rw [g2]
        intro r ⟨p0,⟨ct,hct,p1⟩,hr⟩
        subst hr
        obtain⟨f1,_⟩:=Zb st hE i
        rw [g1] at f1
        have em:=Zg f1
        obtain⟨v,ins,ys,hb,M,hd⟩:=Zb3 st hm' h1 rfl
        have hd:ins[j]? =some (a.eval x):=hd
        obtain⟨ct',hct',zs,hown,_⟩:=M.inn j _ hd
        rw [hct] at hct'
        obtain rfl:=Option.some.inj hct'
        obtain⟨g,cap,cur,ex,_⟩:=Zbx hown (by omega)
        rw [ex] at hd
        refine Za (.pointer (some ⟨g,m.toNat*te.size,none⟩)) ?_ (Zc st (m_mk hm' rfl hb ⟨g,_,_,hd,by rw [hn]⟩) (fun p hp=>hh p (by simpa [AV.hs,S.hs,C.hs] using hp)))
        simp only [execOp,ho,ex,em,Sem.run_bind,Zkl hei hu p0 p1,Result.andThen_ok,Sem.run_pure]
       ·rw [g2];trivial
     ·trivial
    ·trivial
   ·trivial
  ·trivial
 ·exact Zc8 hTB st hE hM o T x i ho
def planFld2 (TB:List (Nat×Ty)) (env:Env) (mem:Mem) (T:Nat) (x:Operand) (f:Nat):Plan:=
 match opd env x with
 | .val (.one (.m o k (.cell i off)))=>match mem o,look TB T with
  | .mat _ _ _ _ _ _ ko _ _ _,some ty=>match ty.fields[f]? with
   |some p=>bif Nat.beq k ko then .ret (.val (.one (.m o k (.cell i (off+p.1))))) else .bad
   |none=> .bad
  |_,_=> .bad
 |_=>planFieldAddr TB env mem T x f
theorem ZiS {TB:List (Nat×Ty)} (hTB:TBok P TB) (st:St w0 I0 nt env mem bs a w) (hE:∀ t,env' t= .junk∨env' t=env t) (hM:∀ o,mem' o= .gone∨mem' o=mem o)
  (o:Oper) (T f:Nat) (x:Operand) (ho:o.op= .fieldAddr T x f):SoundPlan P w0 I0 nt env mem a w o (planFld2 TB env' mem' T x f):=by
 unfold planFld2
 split
 ·rename_i ob k i off hx
  obtain⟨h1,h2⟩:=Zb st hE x
  rw [hx] at h1 h2
  split
  ·rename_i T0 n q Te ne c ko ki xs pd ty hm hty
   have hm':=ZbS hM hm
   obtain⟨ti,tu,tz,hi⟩:=Zj (hTB T ty (Ze hty))
   split
   ·rename_i p hp
    cases hc:Nat.beq k ko with
    |false=>trivial
    |true=>
     obtain rfl:=Nat.eq_of_beq_eq_true hc
     obtain⟨v,ins,ys,hb,M,b,m,cp,hv,ex⟩:=Zb3 st hm' h1 rfl
     refine Za (.pointer (some ⟨b,i*n+off+p.1,none⟩)) (by simp [execOp,ho,ex,hi.run_field (off:=p.1) (sz:=p.2) hp]) (Zc st (m_mk hm' rfl hb ⟨b,m,cp,hv,by rw [Nat.add_assoc]⟩) (fun p hp=>h2 p (by simpa [AV.hs,S.hs,C.hs] using hp)))
   ·trivial
  ·trivial
 ·exact Zdw hTB st hE hM o T f x ho
theorem ZdD {K:Nat→Prop} {e size n:Nat} {v:Value} {xs:List Value} (h:ownsK K w e size v n xs) {g m c:Nat} (e1:v= .slice (some ⟨g,0,none⟩) m c):∀ (k:Nat) (y:Value),xs[k]? =some y→w.cell? ⟨g,k,none⟩=some y:=by
 have h1:=h.row.cells (g:=g) (by rw [e1];rfl)
 intro k y hk
 have:=h1 k y hk
 rwa [Addr.add_lit,Nat.zero_add] at this
theorem ZfP {I:Nat→Prop} {ys:List Value} {ds:List D} {base off size:Nat} (hl:base+off+size≤ys.length) (hd:off+size≤ds.length) (h:∀ (j:Nat) (d:D),off≤j→j< off+size→ds[j]? =some d→∃ y,ys[base+j]? =some y∧Den w I y d):
  Rel2 (fun y c=>DenC w I bs mem y c) ((ys.drop (base+off)).take size) (((ds.drop off).take size).map C.d):=by
 refine⟨by simp only [List.length_take,List.length_drop,List.length_map];omega,fun j c y hc hy=> ?_⟩
 rw [List.getElem?_map] at hc
 cases hq:((ds.drop off).take size)[j]? with
 |none=>rw [hq] at hc;simp at hc
 |some d=>
  rw [hq] at hc
  obtain rfl:=(Option.some.inj hc).symm
  rw [List.getElem?_take] at hq hy
  split at hq
  ·rename_i hj
   rw [if_pos hj] at hy
   rw [List.getElem?_drop] at hq hy
   obtain⟨y',h1,h2⟩:=h (off+j) d (by omega) (by omega) hq
   rw [show base+off+j=base+(off+j) by omega,h1] at hy
   obtain rfl:=Option.some.inj hy
   exact h2
  ·simp at hq
theorem ZjX {ys:List Value} {k size:Nat} {j:Nat} {y:Value} (h:((ys.drop k).take size)[j]? =some y):ys[k+j]? =some y:=by
 rw [List.getElem?_take] at h
 split at h
 ·rwa [List.getElem?_drop] at h
 ·simp at h
def planLd2 (TB:List (Nat×Ty)) (env:Env) (mem:Mem) (T:Nat) (x:Operand):Plan:=
 match opd env x with
 | .val (.one (.m o k h))=>match mem o,look TB T with
  | .mat _ n q _ ne _ ko ki xs pd,some ty=>match h with
   | .cell i off=>bif Nat.beq k ko then (bif Nat.beq off q then .ask fun r=>i< xs.length∧(∀ c,pd≠some (i,c))∧planIs (planCells ty [.m o ki (.inn i)]) r
     else .ask fun r=>∃ ds,xs[i]? =some ds∧(off+ty.size≤q∨q< off)∧off+ty.size≤n∧planIs (planCells ty (((ds.drop off).take ty.size).map .d)) r) else .bad
   | .icell i j=>bif Nat.beq k ki then .ask fun r=>∃ c ds,contAt xs q pd i=some c∧c[j]? =some ds∧ty.size≤ne∧planIs (planCells ty (((ds.drop 0).take ty.size).map .d)) r else .bad
   |_=> .bad
  |_,_=> .bad
 |_=>planLoad TB env mem T x
theorem Zg5 {p:Plan} {r:AV} {o:Oper} (hs:SoundPlan P w0 I0 nt env mem a w o p) (h:planIs p r):Does P o a w (After w0 I0 nt env mem a r):=by
 unfold planIs at h
 split at h
 ·rename_i v
  obtain rfl:r=v:=h
  exact hs
 ·exact h.elim
theorem Zj6 {TB:List (Nat×Ty)} (hTB:TBok P TB) (st:St w0 I0 nt env mem bs a w) (hE:∀ t,env' t= .junk∨env' t=env t) (hM:∀ o,mem' o= .gone∨mem' o=mem o)
  (o:Oper) (T:Nat) (x:Operand) (ho:o.op= .load T x):SoundPlan P w0 I0 nt env mem a w o (planLd2 TB env' mem' T x):=by
 unfold planLd2
 split
 ·rename_i ob k h hx
  obtain⟨h1,h2⟩:=Zb st hE x
  rw [hx] at h1 h2
  have hh:okh mem (ob,k):=h2 (ob,k) (by simp [AV.hs,S.hs,C.hs])
  split
  ·rename_i T0 n q Te ne c ko ki xs pd ty hm hty
   have hm':=ZbS hM hm
   obtain⟨ti,tu,tz,hi⟩:=Zj (hTB T ty (Ze hty))
   split
   ·rename_i i off
    cases hc:Nat.beq k ko with
    |false=>trivial
    |true=>
     obtain rfl:=Nat.eq_of_beq_eq_true hc
     obtain⟨v,ins,ys,hb,M,b,m,cp,hv,ex⟩:=Zb3 st hm' h1 rfl
     have hcl:=ZdD M.own hv
     simp only [cond_true]
     cases hq:Nat.beq off q with
     |true=>
      obtain rfl:=Nat.eq_of_beq_eq_true hq
      intro r ⟨hlt,hpd,hp⟩
      obtain⟨rw_,hrow⟩:∃ rw_,xs[i]? =some rw_:=⟨_,List.getElem?_eq_getElem hlt⟩
      have hil:i< ins.length:=by
       have:=M.len
       unfold insLen at this
       split at this<;>omega
      obtain⟨u,hu⟩:∃ u,ins[i]? =some u:=⟨_,List.getElem?_eq_getElem hil⟩
      have hcell:=M.incell i rw_ u hrow hu hpd
      have hfl:flat u=true:=by
       obtain⟨ct,_,zs,ho',_⟩:=M.inn i u hu
       rcases ho'.2 with ⟨rfl,_⟩|⟨g,cap,cur,rfl,_⟩<;>rfl
      refine Zg5 (Zan st o T x ho hi b (i*n+off) [u] [.m ob ki (.inn i)] ex ((Rel2.nil (R:=fun y c=>DenC w (Stay w0 I0 mem bs w) bs mem y c)).cons (m_mk hm' hfl hb hu)) ?_ ?_) hp
      ·intro j y hj
       cases j with
       |zero=>obtain rfl:=Option.some.inj hj;exact hcl _ _ hcell
       |succ j=>simp at hj
      ·intro c' p hc' hp'
       obtain rfl:=List.mem_singleton.1 hc'
       obtain rfl:p=(ob,ki):=by simpa [C.hs] using hp'
       exact⟨hh.1,st.kin hm'⟩
     |false=>
      intro r ⟨ds,hds,hq1,hq2,hp⟩
      have hdl:=M.row ds (List.mem_of_getElem? hds)
      have hlt:i< xs.length:=(List.getElem?_eq_some_iff.1 hds).1
      have hmul:(i+1)*n≤xs.length*n:=Nat.mul_le_mul_right _ hlt
      rw [Nat.add_mul,Nat.one_mul] at hmul
      have hyl:=M.own.1
      refine Zg5 (Zan st o T x ho hi b (i*n+off) _ _ ex (ZfP (ys:=ys) (ds:=ds) (base:=i*n) (off:=off) (size:=ty.size) (by omega) (by omega) (fun j d g1 g2 hj=>M.cell i j ds d hds (by omega) hj)) ?_ ?_) hp
      ·intro j y hj
       exact hcl _ _ (ZjX hj)
      ·intro c' p hc' hp'
       obtain⟨d,_,rfl⟩:=List.mem_map.1 hc'
       simp [C.hs] at hp'
   ·rename_i i j
    cases hc:Nat.beq k ki with
    |false=>trivial
    |true=>
     obtain rfl:=Nat.eq_of_beq_eq_true hc
     obtain⟨v,ins,ys,hb,M,b,m,cp,hv,ex⟩:=Zb3 st hm' h1 rfl
     intro r ⟨ct,ds,hct,hds,hq2,hp⟩
     obtain⟨ct',hct',zs,hown,hrl,hrd⟩:=M.inn i _ hv
     rw [hct] at hct'
     obtain rfl:=Option.some.inj hct'
     have hcl:=ZdD hown rfl
     have hdl:=hrl ds (List.mem_of_getElem? hds)
     have hlt:j< ct.length:=(List.getElem?_eq_some_iff.1 hds).1
     have hmul:(j+1)*ne≤ct.length*ne:=Nat.mul_le_mul_right _ hlt
     rw [Nat.add_mul,Nat.one_mul] at hmul
     have hyl:=hown.1
     refine Zg5 (Zan st o T x ho hi b (j*ne) _ _ ex (ZfP (ys:=zs) (ds:=ds) (base:=j*ne) (off:=0) (size:=ty.size) (by omega) (by omega) (fun l d g1 g2 hl=>hrd j l ds d hds hl)) ?_ ?_) hp
     ·intro l y hl
      exact hcl _ _ (by have:=ZjX hl;simpa using this)
     ·intro c' p hc' hp'
      obtain⟨d,_,rfl⟩:=List.mem_map.1 hc'
      simp [C.hs] at hp'
   ·trivial
  ·trivial
 ·exact ZiN hTB st hE hM o T x ho
theorem ZcQ (st:St w0 I0 nt env mem bs a w) {o T n q Te ne c ko ki:Nat} {xs:List (List D)} {pd:Option (Nat×List (List D))} (hm:mem o= .mat T n q Te ne c ko ki xs pd) {v:Value} {ins:List Value} (hb:bs o= .agg (v :: ins).toArray)
  {w':World} (hbel:Bel w0.K w w') (hk:∀ k,k< w.heap.size→¬ Blk (.agg (v :: ins).toArray) k→w'.heap[k]? =w.heap[k]?) {c' ko' ki':Nat} {xs':List (List D)} {pd':Option (Nat×List (List D))} {v':Value} {ins' ys':List Value}
  (hc:c≤c'∧ko'≤c'∧ki'≤c') (ho:(ko'=ko∧v'=v)∨c< ko') (hi:(ki'=ki∧∀ (i:Nat) (u:Value),ins[i]? =some u→ins'[i]? =some u)∨c< ki')
  (hx:∀ b,Blk (.agg (v' :: ins').toArray) b→Blk (.agg (v :: ins).toArray) b∨(w.heap.size≤b∧b< w'.heap.size))
  (M:∀ I':Nat→Prop,(∀ b,Stay w0 I0 mem bs w b→I' b∧w'.heap[b]? =w.heap[b]?)→MatOk w0.K w' I' v' ins' ys' T n q Te ne xs' pd'):
  ∃ bs',St w0 I0 nt env (upd mem o (.mat T n q Te ne c' ko' ki' xs' pd')) bs' a w'∧bs' o= .agg (v' :: ins').toArray∧(∀ p,okh mem p→okh (upd mem o (.mat T n q Te ne c' ko' ki' xs' pd')) p)∧
   ∀ b,Stay w0 I0 mem bs w b→Stay w0 I0 (upd mem o (.mat T n q Te ne c' ko' ki' xs' pd')) bs' w' b∧w'.heap[b]? =w.heap[b]? :=by
 have hk':∀ k,k< w.heap.size→((mem o).mut=true→¬ Blk (bs o) k)→w'.heap[k]? =w.heap[k]? :=fun k h1 h2=>hk k h1 (by have:=h2 (by rw [hm];rfl);rwa [hb] at this)
 have hx':∀ b,(Ob.mat T n q Te ne c' ko' ki' xs' pd').mut=true→Blk (.agg (v' :: ins').toArray) b→((mem o).mut=true∧Blk (bs o) b)∨(w.heap.size≤b∧b< w'.heap.size):=fun b _ h=>(hx b h).imp (fun g=>⟨by rw [hm];rfl,by rw [hb];exact g⟩) id
 have hv:Turns mem bs o (.mat T n q Te ne c' ko' ki' xs' pd') (.agg (v' :: ins').toArray):= .inr (.inr (.inr (.inr (.inl ⟨T,n,q,Te,ne,c,ko,ki,xs,pd,T,Te,c',ko',ki',xs',pd',v,v',ins,ins',hm,rfl,hc.1,hb,rfl,ho,hi⟩))))
 have K:=st.keeps o (.mat T n q Te ne c' ko' ki' xs' pd') (.agg (v' :: ins').toArray) hbel hk' hx' hv
 exact⟨upd bs o (.agg (v' :: ins').toArray),st.update o _ _ hbel hk' hx' hv rfl (fun p hp=>by simp [Ob.hs] at hp) ⟨hc.2,v',ins',ys',rfl,M _ K.stay⟩,Zd _ _ _,fun p hp=>hv.okh rfl hp,K.stay⟩
theorem Zb2 {K:Nat→Prop} {e size n:Nat} {v:Value} {xs:List Value} (h:ownsK K w e size v n xs) {g m c:Nat} (hv:v= .slice (some ⟨g,0,none⟩) m c) {off:Nat} {vs:List Value} {w':World} {cur:Array Value}
  (hcur:w.heap[g]? =some (.cells cur e (0,0))) (hrow:Row w' g e (repl cur.toList off vs)) (hin:off+vs.length≤n*size):ownsK K w' e size v n (repl xs off vs):=by
 refine⟨by rw [ZB];exact h.1,?_⟩
 rcases h.2 with ⟨e5,_⟩|⟨g',cap,cur',e5,e6,e7,e8,e9,e10,e11⟩
 ·rw [hv] at e5;simp at e5
 ·rw [hv] at e5
  simp only [Value.slice.injEq,Option.some.injEq,Addr.mk.injEq,and_true] at e5
  obtain⟨rfl,rfl,rfl⟩:=e5
  rw [hcur] at e7
  simp only [Option.some.injEq,Obj.cells.injEq,and_true] at e7
  subst e7
  refine .inr ⟨g,c,(repl cur.toList off vs).toArray,hv,e6,?_,e8,e9,?_,?_⟩
  ·unfold Row at hrow;exact hrow
  ·simp [ZB,e10]
  ·simp only
   have hcap:m*size≤c*size:=Nat.mul_le_mul_right _ e8
   rw [Zdq _ _ _ _ hin,e11]
def putCont (xs:List (List D)) (q:Nat) (pd:Option (Nat×List (List D))) (i:Nat) (c:List (List D)):List (List D)×Option (Nat×List (List D)):=
 match pd with
 |some (j,c0)=>bif Nat.beq i j then (xs,some (j,c)) else (xs.modify i fun r=>r.set q (.list c),some (j,c0))
 |none=>(xs.modify i fun r=>r.set q (.list c),none)
theorem Zgj {xs xs':List (List D)} {pd:Option (Nat×List (List D))} (h:xs'.length=xs.length):insLen xs' pd=insLen xs pd:=by unfold insLen;rw [h]
theorem Zgs {xs xs':List (List D)} {q i:Nat} {pd:Option (Nat×List (List D))} (h:(xs'[i]?).bind (·[q]?)=(xs[i]?).bind (·[q]?)):contAt xs' q pd i=contAt xs q pd i:=by unfold contAt;rw [h]
theorem Zl0 {g:Nat} {w':World} (hbut:But g w w') {v u:Value} {m c:Nat} (hv:v= .slice (some ⟨g,0,none⟩) m c) (h:∀ b,Blk1 u b→¬ Blk1 v b):∀ b,Blk1 u b→w'.heap[b]? =w.heap[b]? :=fun b hb=>hbut.block b (fun e=>by subst e;exact h b hb (by rw [hv];rfl))
theorem Zhd {K:Nat→Prop} {I I':Nat→Prop} {v:Value} {ins ys:List Value} {T n q Te ne:Nat} {xs:List (List D)} {pd:Option (Nat×List (List D))} (M:MatOk K w I v ins ys T n q Te ne xs pd) {g m c:Nat} (hv:v= .slice (some ⟨g,0,none⟩) m c) {i off:Nat} {vs:List Value} {ds:List D}
  {w':World} {cur:Array Value} (hcur:w.heap[g]? =some (.cells cur T (0,0))) (hrow:Row w' g T (repl cur.toList (i*n+off) vs)) (hbut:But g w w') (hlt:i< xs.length) (hoff:off+vs.length≤n) (hq:off+vs.length≤q∨q< off)
  (hI:∀ b,I b→I' b∧w'.heap[b]? =w.heap[b]?) (hd:Rel2 (fun y d=>Den w I y d) vs ds):MatOk K w' I' v ins (repl ys (i*n+off) vs) T n q Te ne (xs.modify i fun r=>repl r off ds) pd:=by
 have hmul:∀ k,k< xs.length→k*n+n≤xs.length*n:=fun k hk=>by
  have:(k+1)*n≤xs.length*n:=Nat.mul_le_mul_right _ hk
  rwa [Nat.add_mul,Nat.one_mul] at this
 have hil:=hmul i hlt
 have hyl:=M.own.1
 have hvl:vs.length=ds.length:=hd.1
 have hrowq:∀ k,((xs.modify i fun r=>repl r off ds)[k]?).bind (·[q]?)=(xs[k]?).bind (·[q]?):=fun k=>by
  rw [List.getElem?_modify]
  cases hk:xs[k]? with
  |none=>rfl
  |some r=>
   simp only [Option.map_eq_map,Option.map_some,Option.bind_some]
   split
   ·rw [ZW,if_neg (by omega)]
   ·rfl
 refine⟨?_,M.pos,by rw [M.len,Zgj (List.length_modify ..)],fun r hr=> ?_,fun k j r d hk hj hd'=> ?_,fun k r u hk hu hpd=> ?_,fun k u hu=> ?_,M.apart,M.apart2⟩
 ·rw [List.length_modify]
  exact Zb2 M.own hv hcur hrow (by omega)
 ·obtain⟨k,hk⟩:=List.getElem?_of_mem hr
  rw [List.getElem?_modify] at hk
  cases hq':xs[k]? with
  |none=>rw [hq'] at hk;simp at hk
  |some r0=>
   rw [hq'] at hk
   simp only [Option.map_eq_map,Option.map_some,Option.some.injEq] at hk
   subst hk
   have:=M.row r0 (List.mem_of_getElem? hq')
   split
   ·rw [ZB];exact this
   ·exact this
 ·rw [List.getElem?_modify] at hk
  cases hq':xs[k]? with
  |none=>rw [hq'] at hk;simp at hk
  |some r0=>
   rw [hq'] at hk
   simp only [Option.map_eq_map,Option.map_some,Option.some.injEq] at hk
   have hr0:=M.row r0 (List.mem_of_getElem? hq')
   have hkl:k< xs.length:=(List.getElem?_eq_some_iff.1 hq').1
   have hkm:=hmul k hkl
   have hjn:j< n:=by
    have:=(List.getElem?_eq_some_iff.1 hd').1
    rw [← hk] at this
    split at this
    ·rw [ZB] at this;omega
    ·omega
   rw [ZW]
   by_cases hik:i=k
   ·subst hik
    rw [if_pos rfl] at hk
    subst hk
    rw [ZW] at hd'
    by_cases hin:off≤j∧j< off+ds.length∧j< r0.length
    ·rw [if_pos hin] at hd'
     rw [if_pos ⟨by omega,by omega,by omega⟩,show i*n+j - (i*n+off)=j - off by omega]
     have hlv:j - off< vs.length:=by omega
     exact⟨vs[j - off],List.getElem?_eq_getElem hlv,Den.mono hI (hd.2 (j - off) d _ hd' (List.getElem?_eq_getElem hlv))⟩
    ·rw [if_neg hin] at hd'
     obtain⟨y,hy,hyd⟩:=M.cell i j r0 d hq' hj hd'
     rw [if_neg (by omega)]
     exact⟨y,hy,Den.mono hI hyd⟩
   ·rw [if_neg hik] at hk
    subst hk
    obtain⟨y,hy,hyd⟩:=M.cell k j r0 d hq' hj hd'
    have hne:¬ (i*n+off≤k*n+j∧k*n+j< i*n+off+vs.length∧k*n+j< ys.length):=by
     rcases Nat.lt_or_gt_of_ne hik with h1|h1
     ·have:(i+1)*n≤k*n:=Nat.mul_le_mul_right _ h1
      rw [Nat.add_mul,Nat.one_mul] at this
      omega
     ·have:(k+1)*n≤i*n:=Nat.mul_le_mul_right _ h1
      rw [Nat.add_mul,Nat.one_mul] at this
      omega
    rw [if_neg hne]
    exact⟨y,hy,Den.mono hI hyd⟩
 ·have hkl:k< xs.length:=by have:=(List.getElem?_eq_some_iff.1 hk).1;rwa [List.length_modify] at this
  have h1:=M.incell k xs[k] u (List.getElem?_eq_getElem hkl) hu hpd
  rw [ZW]
  have hqn:=M.pos.2.1
  have hne:¬ (i*n+off≤k*n+q∧k*n+q< i*n+off+vs.length∧k*n+q< ys.length):=by
   rcases Nat.lt_trichotomy i k with h1|h1|h1
   ·have:(i+1)*n≤k*n:=Nat.mul_le_mul_right _ h1
    rw [Nat.add_mul,Nat.one_mul] at this
    omega
   ·subst h1;omega
   ·have:(k+1)*n≤i*n:=Nat.mul_le_mul_right _ h1
    rw [Nat.add_mul,Nat.one_mul] at this
    omega
  rw [if_neg hne]
  exact h1
 ·obtain⟨ct,h1,h2⟩:=M.inn k u hu
  exact⟨ct,by rw [Zgs (hrowq k)];exact h1,h2.keeps hI (Zl0 hbut hv (fun b hb=>M.apart k u b hu hb))⟩
theorem modq {xs:List (List D)} {q i k:Nat} {d:D}:(((xs.modify i fun r=>r.set q d)[k]?).bind (·[q]?))=if i=k then (match xs[k]? with
  |some r=>if q< r.length then some d else none
  |none=>none) else (xs[k]?).bind (·[q]?):=by
 rw [List.getElem?_modify]
 cases hk:xs[k]? with
 |none=>split<;>rfl
 |some r=>
  simp only [Option.map_eq_map,Option.map_some,Option.bind_some]
  split
  ·split
   ·rename_i h;simp [h]
   ·rename_i h;simp [Nat.not_lt.1 h]
  ·rfl
theorem Zhb {xs:List (List D)} {q i n:Nat} {d:D} (h:∀ r,r∈xs→r.length=n):∀ r,r∈(xs.modify i fun r=>r.set q d)→r.length=n:=by
 intro r hr
 obtain⟨k,hk⟩:=List.getElem?_of_mem hr
 rw [List.getElem?_modify] at hk
 cases hq':xs[k]? with
 |none=>rw [hq'] at hk;simp at hk
 |some r0=>
  rw [hq'] at hk
  simp only [Option.map_eq_map,Option.map_some,Option.some.injEq] at hk
  subst hk
  have:=h r0 (List.mem_of_getElem? hq')
  split
  ·rw [List.length_set];exact this
  ·exact this
theorem Zh8 {xs:List (List D)} {q i k j:Nat} {d e:D} {r:List D} (hk:(xs.modify i fun r=>r.set q d)[k]? =some r) (hj:j≠q) (he:r[j]? =some e):∃ r0,xs[k]? =some r0∧r0[j]? =some e:=by
 rw [List.getElem?_modify] at hk
 cases hq':xs[k]? with
 |none=>rw [hq'] at hk;simp at hk
 |some r0=>
  rw [hq'] at hk
  simp only [Option.map_eq_map,Option.map_some,Option.some.injEq] at hk
  refine⟨r0,rfl,?_⟩
  subst hk
  split at he
  ·rwa [List.getElem?_set_ne (Ne.symm hj)] at he
  ·exact he
theorem Zk6 {K : Nat → Prop} {I I' : Nat → Prop} {v u : Value} {ins ys : List Value} {T n q Te ne i : Nat} {xs : List (List D)} {pd : Option (Nat × List (List D))} (M : MatOk K w I v ins ys T n q Te ne xs pd) (hu : ins[i]? = some u) {c0 c' : List (List D)} (hct : contAt xs q pd i = some c0)
    {w' : World} (hk : ∀ b, ¬ Blk1 u b → w'.heap[b]? = w.heap[b]?) (hI : ∀ b, I b → I' b ∧ w'.heap[b]? = w.heap[b]?) (hin : InOk K w' I' u Te ne c') : MatOk K w' I' v ins ys T n q Te ne (putCont xs q pd i c').1 (putCont xs q pd i c').2 := by
  have hown : ownsK K w' T n v xs.length ys := by
    refine ⟨M.own.1, ?_⟩
    rcases M.own.2 with hn | ⟨g, cap, cur, e, hkg, hg, rest⟩
    · exact .inl hn
    · exact .inr ⟨g, cap, cur, e, hkg, by rw [hk g (fun hb => M.apart i u g hu hb (by rw [e]; rfl))]; exact hg, rest⟩
  have hoth : ∀ k u', ins[k]? = some u' → k ≠ i → ∀ ct, InOk K w I u' Te ne ct → InOk K w' I' u' Te ne ct := fun k u' hu' hki ct h => h.keeps hI (fun b hb => hk b (fun hb' => hki (M.apart2 k i u' u b hu' hu hb hb')))
  by_cases hp : ∃ c, pd = some (i, c)
  · obtain ⟨c, rfl⟩ := hp
    simp only [putCont, Nat.beq_refl, cond_true]
    refine ⟨hown, M.pos, M.len, M.row, fun k j r d h1 h2 h3 => ?_, fun k r u' h1 h2 h3 => M.incell k r u' h1 h2 (fun c1 e => ?_), fun k u' hu' => ?_, M.apart, M.apart2⟩
    · obtain ⟨y, hy, hd⟩ := M.cell k j r d h1 h2 h3
      exact ⟨y, hy, Den.mono hI hd⟩
    · injection e with e; injection e with e1 e2
      exact h3 c' (by rw [e1])
    · by_cases hki : k = i
      · subst hki
        rw [hu] at hu'
        obtain rfl := Option.some.inj hu'
        exact ⟨c', by simp [contAt], hin⟩
      · obtain ⟨ct, h1, h2⟩ := M.inn k u' hu'
        refine ⟨ct, ?_, hoth k u' hu' hki ct h2⟩
        have hb : Nat.beq k i = false := by
          cases e : Nat.beq k i with
          | false => rfl
          | true => exact absurd (Nat.eq_of_beq_eq_true e) hki
        simp only [contAt, hb, cond_false] at h1 ⊢
        exact h1
  · -- the row's own
    have hpe : putCont xs q pd i c' = (xs.modify i fun r => r.set q (.list c'), pd) := by
      unfold putCont
      split
      · rename_i j c1
        have hb : Nat.beq i j = false := by
          cases e : Nat.beq i j with
          | false => rfl
          | true => exact absurd ⟨c1, by rw [Nat.eq_of_beq_eq_true e]⟩ hp
        rw [hb]; rfl
      · rfl
    rw [hpe]
    have hci : ∀ (zs : List (List D)), contAt zs q pd i = (match (zs[i]?).bind (·[q]?) with
        | some (.list c) => some c
        | _ => none) := by
      intro zs
      unfold contAt
      split
      · rename_i j c1
        have hb : Nat.beq i j = false := by
          cases e : Nat.beq i j with
          | false => rfl
          | true => exact absurd ⟨c1, by rw [Nat.eq_of_beq_eq_true e]⟩ hp
        rw [hb]; rfl
      · rfl
    obtain ⟨r0, hr0, hq0⟩ : ∃ r0, xs[i]? = some r0 ∧ q < r0.length := by
      rw [hci] at hct
      cases hx : xs[i]? with
      | none => rw [hx] at hct; simp at hct
      | some r0 =>
        rw [hx] at hct
        refine ⟨r0, rfl, ?_⟩
        have := M.row r0 (List.mem_of_getElem? hx)
        have := M.pos.2.1
        omega
    refine ⟨by simp only [List.length_modify]; exact hown, M.pos, by simp only; rw [M.len, Zgj (List.length_modify ..)], Zhb M.row, fun k j r d h1 h2 h3 => ?_, fun k r u' h1 h2 h3 => ?_, fun k u' hu' => ?_, M.apart, M.apart2⟩
    · obtain ⟨r1, g1, g2⟩ := Zh8 h1 h2 h3
      obtain ⟨y, hy, hd⟩ := M.cell k j r1 d g1 h2 g2
      exact ⟨y, hy, Den.mono hI hd⟩
    · have hkl : k < xs.length := by have := (List.getElem?_eq_some_iff.1 h1).1; rwa [List.length_modify] at this
      exact M.incell k xs[k] u' (List.getElem?_eq_getElem hkl) h2 h3
    · by_cases hki : k = i
      · subst hki
        rw [hu] at hu'
        obtain rfl := Option.some.inj hu'
        refine ⟨c', ?_, hin⟩
        rw [hci, modq, if_pos rfl, hr0]
        simp [hq0]
      · obtain ⟨ct, h1, h2⟩ := M.inn k u' hu'
        have e := Zgs (xs := xs) (xs' := xs.modify i fun r => r.set q (.list c')) (q := q) (i := k) (pd := pd) (by rw [modq, if_neg (Ne.symm hki)])
        exact ⟨ct, e.trans h1, hoth k u' hu' hki ct h2⟩
theorem Zk4 {K:Nat→Prop} {I I':Nat→Prop} {v u:Value} {ins ys:List Value} {T n q Te ne i:Nat} {xs:List (List D)} {ct:List (List D)} (M:MatOk K w I v ins ys T n q Te ne xs (some (i,ct))) (hu:ins[i]? =some u) {g m c:Nat} (hv:v= .slice (some ⟨g,0,none⟩) m c)
  {w':World} {cur:Array Value} (hcur:w.heap[g]? =some (.cells cur T (0,0))) (hrow:Row w' g T (repl cur.toList (i*n+q) [u])) (hbut:But g w w') (hlt:i< xs.length) (hI:∀ b,I b→I' b∧w'.heap[b]? =w.heap[b]?):
  MatOk K w' I' v ins (repl ys (i*n+q) [u]) T n q Te ne (xs.modify i fun r=>r.set q (.list ct)) none:=by
 have hmul:∀ k,k< xs.length→k*n+n≤xs.length*n:=fun k hk=>by
  have:(k+1)*n≤xs.length*n:=Nat.mul_le_mul_right _ hk
  rwa [Nat.add_mul,Nat.one_mul] at this
 have hil:=hmul i hlt
 have hyl:=M.own.1
 have hqn:=M.pos.2.1
 have hl1: [u].length=1:=rfl
 have hcell:∀ k j,k< xs.length→j< n→(k≠i∨j≠q)→(repl ys (i*n+q) [u])[k*n+j]? =ys[k*n+j]? :=by
  intro k j hk hj hne
  rw [ZW,if_neg]
  intro ⟨h1,h2,_⟩
  rw [hl1] at h2
  rcases Nat.lt_trichotomy i k with h3|h3|h3
  ·have:(i+1)*n≤k*n:=Nat.mul_le_mul_right _ h3
   rw [Nat.add_mul,Nat.one_mul] at this
   omega
  ·subst h3;omega
  ·have:(k+1)*n≤i*n:=Nat.mul_le_mul_right _ h3
   rw [Nat.add_mul,Nat.one_mul] at this
   omega
 refine⟨?_,M.pos,?_,Zhb M.row,fun k j r d h1 h2 h3=> ?_,fun k r u' h1 h2 h3=> ?_,fun k u' hu'=> ?_,M.apart,M.apart2⟩
 ·rw [List.length_modify]
  exact Zb2 M.own hv hcur hrow (by rw [hl1];omega)
 ·have:=M.len
  simp only [insLen,List.length_modify] at this ⊢
  omega
 ·have hjn:j< n:=by
   have h4:=Zhb M.row r (List.mem_of_getElem? h1)
   have:=(List.getElem?_eq_some_iff.1 h3).1
   omega
  obtain⟨r1,g1,g2⟩:=Zh8 h1 h2 h3
  obtain⟨y,hy,hd⟩:=M.cell k j r1 d g1 h2 g2
  exact⟨y,by rw [hcell k j (List.getElem?_eq_some_iff.1 g1).1 hjn (.inr h2)];exact hy,Den.mono hI hd⟩
 ·have hkl:k< xs.length:=by have:=(List.getElem?_eq_some_iff.1 h1).1;rwa [List.length_modify] at this
  by_cases hki:k=i
  ·subst hki
   rw [hu] at h2
   obtain rfl:=Option.some.inj h2
   rw [ZW,if_pos ⟨Nat.le_refl _,by rw [hl1];omega,by omega⟩]
   simp
  ·rw [hcell k q hkl hqn (.inl hki)]
   refine M.incell k xs[k] u' (List.getElem?_eq_getElem hkl) h2 (fun c e=> ?_)
   injection e with e;injection e with e1 e2
   exact hki e1.symm
 ·obtain⟨c1,h1,h2⟩:=M.inn k u' hu'
  refine⟨c1,?_,h2.keeps hI (Zl0 hbut hv (fun b hb=>M.apart k u' b hu' hb))⟩
  by_cases hki:k=i
  ·subst hki
   have e:contAt xs q (some (k,ct)) k=some ct:=by simp [contAt]
   rw [e] at h1
   obtain rfl:=Option.some.inj h1
   have hr:=M.row xs[k] (List.getElem_mem hlt)
   simp only [contAt]
   rw [modq,if_pos rfl,List.getElem?_eq_getElem hlt]
   simp [hr,hqn]
  ·have hb:Nat.beq k i=false:=by
    cases e:Nat.beq k i with
    |false=>rfl
    |true=>exact absurd (Nat.eq_of_beq_eq_true e) hki
   simp only [contAt,hb,cond_false] at h1 ⊢
   rw [modq,if_neg (Ne.symm hki)]
   exact h1
def planStCell (ty:Ty) (mem:Mem) (o i off T n q Te ne c ko ki:Nat) (xs:List (List D)) (pd:Option (Nat×List (List D))) (vs:List C):Plan:=
 bif Nat.beq vs.length ty.size&&(Nat.ble (off+ty.size) n&&(Nat.ble (off+ty.size) q||Nat.blt q off)) then dsK mem vs (fun ds=> .putIf (i< xs.length) .junk o (.mat T n q Te ne c ko ki (xs.modify i fun r=>repl r off ds) pd)) .bad else .bad
def planStInn (ty:Ty) (mem:Mem) (o i j T n q Te ne c ko ki:Nat) (xs:List (List D)) (pd:Option (Nat×List (List D))) (vs:List C):Plan:=
 bif Nat.beq vs.length ty.size then dsK mem vs (fun ds=> .askO o (fun r ob=>r= .junk∧∃ ct,contAt xs q pd i=some ct∧j< ct.length∧ob= .mat T n q Te ne c ko ki (putCont xs q pd i (ct.set j ds)).1 (putCont xs q pd i (ct.set j ds)).2)) .bad else .bad
noncomputable def planSt2 (TB:List (Nat×Ty)) (env:Env) (mem:Mem) (T:Nat) (x y:Operand):Plan:=
 match opd env x with
 | .val (.one (.m o k h))=>match mem o,look TB T with
  | .mat T0 n q Te ne c ko ki xs pd,some ty=>match h with
   | .cell i off=>bif Nat.beq k ko then (bif Nat.beq off q then (match opd env y,pd with
     | .val (.one (.m o' k' (.inn i'))),some (j,ct)=>bif Nat.beq o' o&&(Nat.beq k' ki&&Nat.beq ty.size 1) then .putIf (i'=i∧j=i∧i< xs.length) .junk o (.mat T0 n q Te ne c ko ki (xs.modify i fun r=>r.set q (.list ct)) none) else .bad
     |_,_=> .bad) else cellsK (opd env y) (planStCell ty mem o i off T0 n q Te ne c ko ki xs pd) .bad) else .bad
   | .icell i j=>bif Nat.beq k ki&&Nat.beq ty.size ne then cellsK (opd env y) (planStInn ty mem o i j T0 n q Te ne c ko ki xs pd) .bad else .bad
   |_=> .bad
  |_,_=> .bad
 |_=>planStoreG TB env mem T x y
theorem Zc7 {o:Oper} {v:AV} {k:List C→Plan} (h:∀ vs,(v= .val (.agg vs)∨∃ c,v= .val (.one c)∧vs= [c])→SoundPlan P w0 I0 nt env mem a w o (k vs)):SoundPlan P w0 I0 nt env mem a w o (cellsK v k .bad):=by
 unfold cellsK
 split
 ·exact h _ (.inr ⟨_,rfl,rfl⟩)
 ·exact h _ (.inl rfl)
 ·trivial
theorem ZaO {v:Value} {ins:List Value} {i b:Nat} {u:Value} (h:ins[i]? =some u) (hb:Blk1 u b):Blk (.agg (v :: ins).toArray) b:=⟨u,by simp [List.mem_of_getElem? h],hb⟩
theorem Zcg {v:Value} {ins:List Value} {b:Nat} (hb:Blk1 v b):Blk (.agg (v :: ins).toArray) b:=⟨v,by simp,hb⟩
theorem Zj4 {TB:List (Nat×Ty)} (hTB:TBok P TB) (st:St w0 I0 nt env mem bs a w) (hE:∀ t,env' t= .junk∨env' t=env t) (hM:∀ o,mem' o= .gone∨mem' o=mem o)
  (o:Oper) (T:Nat) (x y:Operand) (ho:o.op= .store T x y):SoundPlan P w0 I0 nt env mem a w o (planSt2 TB env' mem' T x y):=by
 unfold planSt2
 split
 ·rename_i ob k h hx
  obtain⟨h1,h2⟩:=Zb st hE x
  obtain⟨g1,_⟩:=Zb st hE y
  rw [hx] at h1 h2
  split
  ·rename_i T0 n q Te ne c ko ki xs pd ty hm hty
   have hm':=ZbS hM hm
   obtain⟨ti,tu,tz,hi⟩:=Zj (hTB T ty (Ze hty))
   have hver:ko≤c∧ki≤c:=by
    have:=st.obs ob
    rw [hm'] at this
    exact this.1
   split
   ·rename_i i off
    cases hc:Nat.beq k ko with
    |false=>trivial
    |true=>
     obtain rfl:=Nat.eq_of_beq_eq_true hc
     obtain⟨v,ins,ys,hb,M,b,m,cp,hv,ex⟩:=Zb3 st hm' h1 rfl
     simp only [cond_true]
     have main:∀ (hlt:i< xs.length) (hoff:off+ty.size≤n) (hcs:(a.eval y).cells.size=ty.size) (hfl:∀ u,u∈(a.eval y).cells.toList→flat u=true) (xs':List (List D)) (pd':Option (Nat×List (List D))),
       (∀ (w':World) (cur:Array Value) (I':Nat→Prop),w.heap[b]? =some (.cells cur T0 (0,0))→Row w' b T0 (repl cur.toList (i*n+off) (a.eval y).cells.toList)→But b w w'→(∀ b,Stay w0 I0 mem bs w b→I' b∧w'.heap[b]? =w.heap[b]?)→
        MatOk w0.K w' I' v ins (repl ys (i*n+off) (a.eval y).cells.toList) T0 n q Te ne xs' pd')→Does P o a w (After w0 I0 nt env (upd mem ob (.mat T0 n q Te ne c k ki xs' pd')) a .junk):=by
      intro hlt hoff hcs hfl xs' pd' hM'
      obtain⟨g,cap,cur,e5,e6,e7,e8,e9,e10,e11⟩:=Zbx M.own (by omega)
      rw [hv] at e5
      simp only [Value.slice.injEq,Option.some.injEq,Addr.mk.injEq,and_true] at e5
      obtain⟨rfl,rfl,rfl⟩:=e5
      have hin:i*n+n≤xs.length*n:=by
       have:(i+1)*n≤xs.length*n:=Nat.mul_le_mul_right _ hlt
       rwa [Nat.add_mul,Nat.one_mul] at this
      have hcap:xs.length*n≤cp*n:=Nat.mul_le_mul_right _ e8
      have hcsz:cur.toList.length=cp*n:=by simp [e10]
      obtain⟨w',hrun,hrow',hbut⟩:=Zbb (P:=P) (off:=i*n+off) hi (ZbE (w:=w) e7) (a.eval y) hcs (by rw [hcsz];omega) hfl
      have hblk:∀ k',k'< w.heap.size→¬ Blk (.agg (v :: ins).toArray) k'→w'.heap[k']? =w.heap[k']? :=fun k' _ hne=>hbut.block k' (fun e=>by subst e;exact hne (Zcg (by rw [hv];rfl)))
      obtain⟨bs',st',hb',hok,_⟩:=ZcQ st hm' hb (hbut.bel e6) hblk (c':=c) (ko':=k) (ki':=ki) (xs':=xs') (pd':=pd') (v':=v) (ins':=ins) ⟨Nat.le_refl _,hver⟩ (.inl ⟨rfl,rfl⟩) (.inl ⟨rfl,fun _ _ h=>h⟩) (fun b hb=> .inl hb) (fun I' hI'=>hM' w' cur I' e7 hrow' hbut hI')
      exact ZbC (w':=w') (by simp [execOp,ho,ex,hrun]) ⟨bs',st',trivial,fun p hp=>by simp [AV.hs] at hp⟩
     cases hq:Nat.beq off q with
     |true=>
      obtain rfl:=Nat.eq_of_beq_eq_true hq
      simp only [cond_true]
      split
      ·rename_i o' k' i' j ct hy
       cases hcc:(Nat.beq o' ob&&(Nat.beq k' ki&&Nat.beq ty.size 1)) with
       |false=>trivial
       |true=>
        simp only [Bool.and_eq_true] at hcc
        obtain rfl:=Nat.eq_of_beq_eq_true hcc.1
        obtain rfl:=Nat.eq_of_beq_eq_true hcc.2.1
        have hs1:=Nat.eq_of_beq_eq_true hcc.2.2
        intro ⟨hi1,hi2,hlt⟩
        subst hi1 hi2
        rw [hy] at g1
        obtain⟨v2,ins2,_,hb2,M2,hu⟩:=Zb3 st hm' g1 rfl
        rw [hb] at hb2
        obtain⟨rfl,rfl⟩:=Zhx hb2
        have hu:=(show ins[_]? =some (a.eval y) from hu)
        have hfl:flat (a.eval y)=true:=g1.1
        have hcl:(a.eval y).cells=#[a.eval y]:=ZcU hfl
        refine main hlt (by have:=M.pos.2.1;omega) (by rw [hcl,hs1];rfl) (fun u hu'=> ?_) _ _ (fun w' cur I' e7 hrow' hbut hI'=> ?_)
        ·rw [hcl] at hu'
         obtain rfl:u=a.eval y:=by simpa using hu'
         exact hfl
        ·rw [hcl] at hrow' ⊢
         exact Zk4 M hu hv e7 hrow' hbut hlt hI'
      ·trivial
     |false=>
      simp only [cond_false]
      refine Zc7 fun vs hvs=> ?_
      unfold planStCell
      cases hcc:(Nat.beq vs.length ty.size&&(Nat.ble (off+ty.size) n&&(Nat.ble (off+ty.size) q||Nat.blt q off))) with
      |false=>trivial
      |true=>
       simp only [Bool.and_eq_true,Bool.or_eq_true] at hcc
       have e1:=Nat.eq_of_beq_eq_true hcc.1
       have e2:=Nat.le_of_ble_eq_true hcc.2.1
       have e3:off+ty.size≤q∨q< off:=hcc.2.2.imp Nat.le_of_ble_eq_true Nat.le_of_ble_eq_true
       simp only [cond_true]
       rcases ZbM st hM vs (fun ds=>Plan.putIf (i< xs.length) .junk ob (.mat T0 n q Te ne c k ki (xs.modify i fun r=>repl r off ds) pd)) Plan.bad with ⟨ds,f1,f2⟩|f1
       ·rw [f1]
        intro hlt
        have hcells:=Za7 g1 hvs
        have hR:=f2 _ hcells
        have hcl:(a.eval y).cells.toList.length=ty.size:=by rw [hcells.1,e1]
        refine main hlt e2 (by simpa using hcl) (fun u hu=>by obtain⟨c',_,hd⟩:=hcells.mem hu;exact hd.flat) _ _ (fun w' cur I' e7 hrow' hbut hI'=> ?_)
        exact Zhd M hv e7 hrow' hbut hlt (by rw [hcl];exact e2) (by rw [hcl];exact e3) hI' hR
       ·rw [f1];trivial
   ·rename_i i j
    cases hc:(Nat.beq k ki&&Nat.beq ty.size ne) with
    |false=>trivial
    |true=>
     simp only [Bool.and_eq_true] at hc
     obtain rfl:=Nat.eq_of_beq_eq_true hc.1
     have hne:=Nat.eq_of_beq_eq_true hc.2
     obtain⟨v,ins,ys,hb,M,b,m,cp,hv,ex⟩:=Zb3 st hm' h1 rfl
     simp only [cond_true]
     refine Zc7 fun vs hvs=> ?_
     unfold planStInn
     cases hcc:Nat.beq vs.length ty.size with
     |false=>trivial
     |true=>
      have e1:=Nat.eq_of_beq_eq_true hcc
      simp only [cond_true]
      rcases ZbM st hM vs (fun ds=>Plan.askO ob (fun r ob'=>r= .junk∧∃ ct,contAt xs q pd i=some ct∧j< ct.length∧ob'= .mat T0 n q Te ne c ko k (putCont xs q pd i (ct.set j ds)).1 (putCont xs q pd i (ct.set j ds)).2)) Plan.bad with ⟨ds,f1,f2⟩|f1
      ·rw [f1]
       intro r ob' ⟨hr,ct,hct,hlt,hob'⟩
       subst hr;subst hob'
       have hcells:=Za7 g1 hvs
       have hR:=f2 _ hcells
       have hcl:(a.eval y).cells.toList.length=ty.size:=by rw [hcells.1,e1]
       have hdl:ds.length=ne:=by rw [← hR.1,hcl,hne]
       obtain⟨ct',hct',zs,hown,hrl,hrd⟩:=M.inn i _ hv
       rw [hct] at hct'
       obtain rfl:=Option.some.inj hct'
       obtain⟨g,cap,cur,e5,e6,e7,e8,e9,e10,e11⟩:=Zbx hown (by omega)
       simp only [Value.slice.injEq,Option.some.injEq,Addr.mk.injEq,and_true] at e5
       obtain⟨rfl,rfl,rfl⟩:=e5
       have hin:j*ne+ne≤ct.length*ne:=by
        have:(j+1)*ne≤ct.length*ne:=Nat.mul_le_mul_right _ hlt
        rwa [Nat.add_mul,Nat.one_mul] at this
       have hcap:ct.length*ne≤cp*ne:=Nat.mul_le_mul_right _ e8
       have hcsz:cur.toList.length=cp*ne:=by simp [e10]
       obtain⟨w',hrun,hrow',hbut⟩:=Zbb (P:=P) (off:=j*ne) hi (ZbE (w:=w) e7) (a.eval y) (by simpa using hcl) (by rw [hcsz];omega) (fun u hu=>by obtain⟨c',_,hd⟩:=hcells.mem hu;exact hd.flat)
       have hblk:∀ k',¬ Blk1 (.slice (some ⟨b,0,none⟩) ct.length cp) k'→w'.heap[k']? =w.heap[k']? :=fun k' hne'=>hbut.block k' (fun e=>by subst e;exact hne' rfl)
       obtain⟨bs',st',hb',hok,_⟩:=ZcQ st hm' hb (hbut.bel e6) (fun k' _ hne'=>hblk k' (fun h=>hne' (ZaO hv h))) (c':=c) (ko':=ko) (ki':=k) (xs':=(putCont xs q pd i (ct.set j ds)).1) (pd':=(putCont xs q pd i (ct.set j ds)).2) (v':=v) (ins':=ins) (ys':=ys)
        ⟨Nat.le_refl _,hver⟩ (.inl ⟨rfl,rfl⟩) (.inl ⟨rfl,fun _ _ h=>h⟩) (fun b hb=> .inl hb) (fun I' hI'=>by
         refine Zk6 M hv hct hblk hI' ?_
         refine⟨repl zs (j*ne) (a.eval y).cells.toList,by rw [List.length_set];exact Zb2 hown rfl e7 hrow' (by rw [hcl,hne];exact hin),fun r hr=> ?_,fun l p r d hl hp=> ?_⟩
         ·rcases List.mem_or_eq_of_mem_set hr with h|h
          ·exact hrl r h
          ·rw [h];exact hdl
         ·have hyl:=hown.1
          rw [ZW,hcl,hne]
          by_cases hjl:j=l
          ·subst hjl
           rw [List.getElem?_set_self (by simpa using hlt)] at hl
           obtain rfl:=Option.some.inj hl
           have hpn:p< ne:=by have:=(List.getElem?_eq_some_iff.1 hp).1;omega
           rw [if_pos ⟨by omega,by omega,by omega⟩,show j*ne+p - j*ne=p by omega]
           have hlv:p< (a.eval y).cells.toList.length:=by omega
           exact⟨_,List.getElem?_eq_getElem hlv,Den.mono hI' (hR.2 p d _ hp (List.getElem?_eq_getElem hlv))⟩
          ·rw [List.getElem?_set_ne hjl] at hl
           obtain⟨y',hy',hd'⟩:=hrd l p r d hl hp
           have hpn:p< ne:=by have h3:=hrl r (List.mem_of_getElem? hl);have:=(List.getElem?_eq_some_iff.1 hp).1;omega
           rw [if_neg (by
            intro ⟨h3,h4,_⟩
            rcases Nat.lt_or_gt_of_ne hjl with h5|h5
            ·have:(j+1)*ne≤l*ne:=Nat.mul_le_mul_right _ h5
             rw [Nat.add_mul,Nat.one_mul] at this
             omega
            ·have:(l+1)*ne≤j*ne:=Nat.mul_le_mul_right _ h5
             rw [Nat.add_mul,Nat.one_mul] at this
             omega)]
           exact⟨y',hy',Den.mono hI' hd'⟩)
       exact ZbC (w':=w') (by simp [execOp,ho,ex,hrun]) ⟨bs',st',trivial,fun p hp=>by simp [AV.hs] at hp⟩
      ·rw [f1];trivial
   ·trivial
  ·trivial
 ·exact Zfz hTB st hE hM o T x y ho
theorem Zkn (st:St w0 I0 nt env mem bs a w) {t e n:Nat} {ty te:Ty} {ti ei:TypeInfo} {tu eu:TypeDesc} {tz ez:Value} (hi:TyIs P t ty ti tu tz) (he:ty.elem=some e) (hei:TyIs P e te ei eu ez) (hpos:0< te.size) {v x:Value} {zs:List Value} {ys:List (List D)}
  (hdx:Den w (Stay w0 I0 mem bs w) x (.list ys)) (hown:ownsK w0.K w e te.size v n zs) (b1:∀ row,row∈ys→row.length=te.size) (b2:(n+ys.length)*te.bytes≤140737488355328) (b3:n+ys.length≤140737488355328) (ty0:TypeId):
  ∃ v' w' l,(Builtin.append_ #[t,t] ty0 #[v,x]).run P w= .ok v' w'∧l.length=ys.length*te.size∧ownsK w0.K w' e te.size v' (n+ys.length) (zs++l)∧w.grownBy w' v.ownBlock∧(v'.ownBlock=v.ownBlock∨v'.ownBlock=some w.heap.size)∧
   ∀ (i j:Nat) (r:List D) (d:D),ys[i]? =some r→r[j]? =some d→∃ y,l[i*te.size+j]? =some y∧Den w (Stay w0 I0 mem bs w) y d:=by
 obtain⟨ad,c,l,ex,hl,hcell,hlf,hld⟩:=Zdl hdx b1 hpos
 have hmx:n+ys.length≤maxLen:=by have:=ZaB;omega
 have hsz:ei.size=te.size:=hei.size.symm
 have hby:ei.bytes=te.bytes:=hei.bytes.symm
 have hown1:w.ownsRow 0 e ei.size v n zs:=by rw [hsz];exact hown.row
 have hrun:∃ v' w',(Builtin.append_ #[t,t] ty0 #[v,.slice ad ys.length c]).run P w= .ok v' w'∧w'.ownsRow 0 e te.size v' (n+ys.length) (zs++l)∧w.grownBy w' v.ownBlock∧(v'.ownBlock=v.ownBlock∨v'.ownBlock=some w.heap.size):=by
  by_cases h0:ys.length=0
  ·have hl0:l= []:=List.eq_nil_of_length_eq_zero (by rw [hl,h0,Nat.zero_mul])
   cases ad with
   |none=>
    refine⟨v,w,by rw [h0];exact ZdY t _ e (hi.slice he) ei hei.info v n zs hown1 c,?_,⟨rfl,rfl,rfl,Nat.le_refl _,fun _ _ _=>rfl⟩,.inl rfl⟩
    rw [h0,hl0,List.append_nil];exact hown.row
   |some q=>
    obtain⟨v',w',hr,h2,h3,_⟩:=run_append_own (P:=P) w 0 t ty0 e ei ez te.size te.bytes (hi.slice he) hei.info hei.hz hsz hby (by rw [hei.zs,hsz]) hpos v n zs hown.row q ys.length c l hl
     (fun j u hj=>by rw [hl0] at hj;simp at hj) (fun u hu=>by rw [ZaH];exact hlf u hu) hmx b2 (Nat.zero_le _)
    exact⟨v',w',hr,h2,h3,ZbP t _ e ei ez (hi.slice he) hei.info hei.hz v n zs hown1 q ys.length c l (by rw [hsz];exact hl) (fun j u hj=>by rw [hl0] at hj;simp at hj) (fun u hu=>by rw [ZaH];exact hlf u hu) hmx (by rw [hby];exact b2) hr⟩
  ·obtain⟨q,rfl,hcq⟩:=hcell h0
   obtain⟨v',w',hr,h2,h3,_⟩:=run_append_own (P:=P) w 0 t ty0 e ei ez te.size te.bytes (hi.slice he) hei.info hei.hz hsz hby (by rw [hei.zs,hsz]) hpos v n zs hown.row q ys.length c l hl
    hcq (fun u hu=>by rw [ZaH];exact hlf u hu) hmx b2 (Nat.zero_le _)
   exact⟨v',w',hr,h2,h3,ZbP t _ e ei ez (hi.slice he) hei.info hei.hz v n zs hown1 q ys.length c l (by rw [hsz];exact hl) hcq (fun u hu=>by rw [ZaH];exact hlf u hu) hmx (by rw [hby];exact b2) hr⟩
 obtain⟨v',w',hr,hown',hgrow,hblk⟩:=hrun
 refine⟨v',w',l,by rw [ex];exact hr,hl,ZP hown' fun k hk=> ?_,hgrow,hblk,hld⟩
 rcases hblk with h|h
 ·exact hown.not (by rw [← h];exact hk)
 ·rw [h] at hk;obtain rfl:=Option.some.inj hk;exact st.newK (Nat.le_refl _)
theorem ZM {K:Nat→Prop} {e size n:Nat} {v:Value} {xs:List Value} (h:ownsK K w e size v n xs) {b:Nat}:Blk1 v b↔v.ownBlock=some b:=by
 rcases h.2 with ⟨rfl,_⟩|⟨g,cap,cur,rfl,_⟩<;>simp [Blk1,Value.ownBlock]
theorem Zk7 {K:Nat→Prop} {I I':Nat→Prop} {v u u':Value} {ins ys zs l:List Value} {T n q Te ne i:Nat} {xs:List (List D)} {ct cs:List (List D)} (M:MatOk K w I v ins ys T n q Te ne xs none) (hu:ins[i]? =some u) (hown:ownsK K w Te ne u ct.length zs)
  (hrl:∀ r,r∈ct→r.length=ne) (hrd:∀ (i j:Nat) (r:List D) (d:D),ct[i]? =some r→r[j]? =some d→∃ y,zs[i*ne+j]? =some y∧Den w I y d) {w':World} (hown':ownsK K w' Te ne u' (ct.length+cs.length) (zs++l)) (hg:w.grownBy w' u.ownBlock)
  (hblk:u'.ownBlock=u.ownBlock∨u'.ownBlock=some w.heap.size) (b1:∀ r,r∈cs→r.length=ne) (hld:∀ (i j:Nat) (r:List D) (d:D),cs[i]? =some r→r[j]? =some d→∃ y,l[i*ne+j]? =some y∧Den w I y d) (hI:∀ b,I b→I' b∧w'.heap[b]? =w.heap[b]?):
  MatOk K w' I' v (ins.set i u') ys T n q Te ne xs (some (i,ct++cs)):=by
 have hil:i< ins.length:=(List.getElem?_eq_some_iff.1 hu).1
 have hix:i< xs.length:=by have:=M.len;simp only [insLen] at this;omega
 have hlt:∀ b,Blk1 v b→b< w.heap.size:=fun b hb=>M.own.lt ((ZM M.own).1 hb)
 have houter:∀ b,Blk1 v b→w'.heap[b]? =w.heap[b]? :=fun b hb=>hg.block b (hlt b hb) (fun e=>M.apart i u b hu ((ZM hown).2 e.symm) hb)
 have hinlt:∀ k z b,ins[k]? =some z→Blk1 z b→b< w.heap.size:=fun k z b hz hb=>by
  obtain⟨c,_,zz,h1,_⟩:=M.inn k z hz
  exact h1.lt ((ZM h1).1 hb)
 have hinner:∀ k z,ins[k]? =some z→k≠i→∀ b,Blk1 z b→w'.heap[b]? =w.heap[b]? :=fun k z hz hk b hb=>hg.block b (hinlt k z b hz hb) (fun e=>hk (M.apart2 k i z u b hz hu hb ((ZM hown).2 e.symm)))
 have hnew:∀ b,Blk1 u' b→Blk1 u b∨b=w.heap.size:=fun b hb=>by
  have:=(ZM hown').1 hb
  rcases hblk with h|h
  ·exact .inl ((ZM hown).2 (by rw [← h];exact this))
  ·rw [h] at this;exact .inr (Option.some.inj this).symm
 have hget:∀ k z,(ins.set i u')[k]? =some z→(k=i∧z=u')∨(k≠i∧ins[k]? =some z):=fun k z hz=>by
  by_cases e:k=i
  ·subst e
   rw [List.getElem?_set_self hil] at hz
   exact .inl ⟨rfl,(Option.some.inj hz).symm⟩
  ·rw [List.getElem?_set_ne (Ne.symm e)] at hz
   exact .inr ⟨e,hz⟩
 refine⟨⟨M.own.1,?_⟩,M.pos,?_,M.row,fun k j r d h1 h2 h3=> ?_,fun k r z h1 h2 h3=> ?_,fun k z hz=> ?_,fun k z b hz hb hv=> ?_,fun k j z z' b hz hz' hb hb'=> ?_⟩
 ·rcases M.own.2 with hn|⟨g,cap,cur,e,hkg,hgc,rest⟩
  ·exact .inl hn
  ·exact .inr ⟨g,cap,cur,e,hkg,by rw [houter g (by rw [e];rfl)];exact hgc,rest⟩
 ·have:=M.len
  simp only [insLen,List.length_set] at this ⊢
  omega
 ·obtain⟨y,hy,hd⟩:=M.cell k j r d h1 h2 h3
  exact⟨y,hy,Den.mono hI hd⟩
 ·rcases hget k z h2 with ⟨rfl,_⟩|⟨hk,hz⟩
  ·exact absurd rfl (h3 _)
  ·exact M.incell k r z h1 hz (fun c e=>by simp at e)
 ·rcases hget k z hz with ⟨rfl,rfl⟩|⟨hk,hz'⟩
  ·refine⟨ct++cs,by simp [contAt],zs++l,by rw [List.length_append];exact hown',fun r hr=> ?_,fun p j r d hp hj=> ?_⟩
   ·rcases List.mem_append.1 hr with h|h
    ·exact hrl r h
    ·exact b1 r h
   ·have hzl:=hown.1
    by_cases hpl:p< ct.length
    ·rw [List.getElem?_append_left hpl] at hp
     obtain⟨y,hy,hd⟩:=hrd p j r d hp hj
     exact⟨y,by rw [List.getElem?_append_left (List.getElem?_eq_some_iff.1 hy).1];exact hy,Den.mono hI hd⟩
    ·rw [List.getElem?_append_right (by omega)] at hp
     obtain⟨y,hy,hd⟩:=hld (p - ct.length) j r d hp hj
     have hmul:p*ne=ct.length*ne+(p - ct.length)*ne:=by rw [← Nat.add_mul];congr 1;omega
     refine⟨y,?_,Den.mono hI hd⟩
     rw [List.getElem?_append_right (by omega),hzl,show p*ne+j - ct.length*ne=(p - ct.length)*ne+j by omega]
     exact hy
  ·obtain⟨c,h1,h2⟩:=M.inn k z hz'
   refine⟨c,?_,h2.keeps hI (hinner k z hz' hk)⟩
   have hb:Nat.beq k i=false:=by
    cases e:Nat.beq k i with
    |false=>rfl
    |true=>exact absurd (Nat.eq_of_beq_eq_true e) hk
   simp only [contAt,hb,cond_false] at h1 ⊢
   exact h1
 ·rcases hget k z hz with ⟨rfl,rfl⟩|⟨hk,hz'⟩
  ·rcases hnew b hb with h|h
   ·exact M.apart k u b hu h hv
   ·have:=hlt b hv;omega
  ·exact M.apart k z b hz' hb hv
 ·rcases hget k z hz with ⟨rfl,rfl⟩|⟨hk,h1⟩<;>rcases hget j z' hz' with ⟨rfl,rfl⟩|⟨hj,h2⟩
  ·rfl
  ·rcases hnew b hb with h|h
   ·exact M.apart2 k j u z' b hu h2 h hb'
   ·have:=hinlt j z' b h2 hb';omega
  ·rcases hnew b hb' with h|h
   ·exact M.apart2 k j z u b h1 hu hb h
   ·have:=hinlt k z b h1 hb;omega
  ·exact M.apart2 k j z z' b h1 h2 hb hb'
def planAppI (TB:List (Nat×Ty)) (env:Env) (mem:Mem) (o k i:Nat) (t t':TypeId) (x:Operand):Plan:=
 match mem o with
 | .mat T n q Te ne c ko ki rows none=>bif Nat.beq k ki&&Nat.beq t t' then (match look TB t with
  |some ty=>match ty.elem with
   |some e=>match look TB e with
    |some te=>bif Nat.beq e Te&&(Nat.beq te.size ne&&Nat.blt 0 te.size) then listK mem (opd env x) (fun ys=> .askO o (fun r ob=>∃ ct,contAt rows q none i=some ct∧((∀ row,row∈ys→row.length=te.size)∧(ct.length+ys.length)*te.bytes≤140737488355328∧ct.length+ys.length≤140737488355328)∧
      r= .val (.one (.m o (c+1) (.inn i)))∧ob= .mat T n q Te ne (c+1) ko (c+1) rows (some (i,ct++ys)))) .bad else .bad
    |none=> .bad
   |none=> .bad
  |none=> .bad) else .bad
 |_=> .bad
def planApp2 (P:Program) (TB:List (Nat×Ty)) (env:Env) (mem:Mem) (dst:Option Nat) (ts:List TypeId) (xs:List Operand):Plan:=
 match xs,ts with
 | [s,x], [t,t']=>match opd env s with
  | .val (.one (.m o k (.inn i)))=>planAppI TB env mem o k i t t' x
  |_=>planAppendG P TB env mem dst [t,t'] [s,x]
 |_,_=>planAppendG P TB env mem dst ts xs
theorem Zee {TB:List (Nat×Ty)} (hTB:TBok P TB) (st:St w0 I0 nt env mem bs a w) (hE:∀ t,env' t= .junk∨env' t=env t) (hM:∀ o,mem' o= .gone∨mem' o=mem o)
  (o:Oper) (xs:List Operand) (ts:List TypeId) (ho:o.op= .call { callee:= .builtin .append,args:=⟨xs⟩,argTypes:=⟨ts⟩ }) (hD:∀ d,o.dst=some d→mem' d=mem d):SoundPlan P w0 I0 nt env mem a w o (planApp2 P TB env' mem' o.dst ts xs):=by
 unfold planApp2
 split
 ·rename_i s x t t'
  split
  ·rename_i ob k i hs
   unfold planAppI
   split
   ·rename_i T n q Te ne c ko ki rows hm
    have hm':=ZbS hM hm
    have hver:ko≤c∧ki≤c:=by
     have:=st.obs ob
     rw [hm'] at this
     exact this.1
    cases hc:(Nat.beq k ki&&Nat.beq t t') with
    |false=>trivial
    |true=>
     simp only [Bool.and_eq_true] at hc
     obtain rfl:=Nat.eq_of_beq_eq_true hc.1
     obtain rfl:=Nat.eq_of_beq_eq_true hc.2
     simp only [cond_true]
     split
     ·rename_i ty hty
      obtain⟨ti,tu,tz,hi⟩:=Zj (hTB t ty (Ze hty))
      split
      ·rename_i e he
       split
       ·rename_i te hte
        obtain⟨ei,eu,ez,hei⟩:=Zj (hTB e te (Ze hte))
        cases hcc:(Nat.beq e Te&&(Nat.beq te.size ne&&Nat.blt 0 te.size)) with
        |false=>trivial
        |true=>
         simp only [Bool.and_eq_true] at hcc
         obtain rfl:=Nat.eq_of_beq_eq_true hcc.1
         have hne:=Nat.eq_of_beq_eq_true hcc.2.1
         have hpos:0< te.size:=Nat.le_of_ble_eq_true hcc.2.2
         simp only [cond_true]
         obtain⟨h1,_⟩:=Zb st hE x
         obtain⟨g1,g2⟩:=Zb st hE s
         rw [hs] at g1 g2
         rcases Zar st hM (opd env' x) (fun ys=>Plan.askO ob (fun r ob'=>∃ ct,contAt rows q none i=some ct∧((∀ row,row∈ys→row.length=te.size)∧(ct.length+ys.length)*te.bytes≤140737488355328∧ct.length+ys.length≤140737488355328)∧
           r= .val (.one (.m ob (c+1) (.inn i)))∧ob'= .mat T n q e ne (c+1) ko (c+1) rows (some (i,ct++ys)))) Plan.bad with ⟨cs,e1,hx⟩|e1
         ·rw [e1]
          intro r ob' ⟨ct,hct,⟨b1,b2,b3⟩,hr,hob'⟩
          subst hr;subst hob'
          have hdx:=hx _ h1
          obtain⟨v,ins,ys,hb,M,hu⟩:=Zb3 st hm' g1 rfl
          have hu:ins[i]? =some (a.eval s):=hu
          obtain⟨ct',hct',zs,hown,hrl,hrd⟩:=M.inn i _ hu
          rw [hct] at hct'
          obtain rfl:=Option.some.inj hct'
          have hown2:ownsK w0.K w e te.size (a.eval s) ct.length zs:=by rw [hne];exact hown
          obtain⟨v',w',l,hrun,hll,hown',hgrow,hblk,hld⟩:=Zkn st hi he hei hpos hdx hown2 b1 b2 b3 o.type
          rw [hne] at hown' b1
          have hld':∀ (i j:Nat) (r:List D) (d:D),cs[i]? =some r→r[j]? =some d→∃ y,l[i*ne+j]? =some y∧Den w (Stay w0 I0 mem bs w) y d:=by rw [← hne];exact hld
          have hbel:Bel w0.K w w':=⟨hgrow.os,hgrow.tape,hgrow.output,hgrow.size,fun k' hk'=>hgrow.block k' (st.ltK hk') (fun e=>hown.not e.symm hk')⟩
          have hil:i< ins.length:=(List.getElem?_eq_some_iff.1 hu).1
          obtain⟨bs',st',hb',hok,_⟩:=ZcQ st hm' hb hbel (fun k' hk' hne'=>hgrow.block k' hk' (fun e=>hne' (ZaO hu ((ZM hown).2 e.symm)))) (c':=c+1) (ko':=ko) (ki':=c+1) (xs':=rows) (pd':=some (i,ct++cs)) (v':=v) (ins':=ins.set i v') (ys':=ys)
           ⟨Nat.le_succ _,by omega,Nat.le_refl _⟩ (.inl ⟨rfl,rfl⟩) (.inr (by omega)) (fun b hb'=>by
            obtain⟨z,hz,hzb⟩:∃ z,z∈v :: ins.set i v'∧Blk1 z b:=by simpa [Blk] using hb'
            rcases List.mem_cons.1 hz with rfl|hz
            ·exact .inl (Zcg hzb)
            ·rcases List.mem_or_eq_of_mem_set hz with h|h
             ·obtain⟨p,hp⟩:=List.getElem?_of_mem h
              exact .inl (ZaO hp hzb)
             ·subst h
              have h3:=(ZM hown').1 hzb
              rcases hblk with h4|h4
              ·exact .inl (ZaO hu ((ZM hown).2 (by rw [← h4];exact h3)))
              ·have hlt:=hown'.lt h3
               rw [h4] at h3
               obtain rfl:=Option.some.inj h3
               exact .inr ⟨Nat.le_refl _,hlt⟩) (fun I' hI'=>Zk7 M hu hown hrl hrd hown' hgrow hblk b1 hld' hI')
          have hfl:flat v'=true:=by rcases hown'.2 with ⟨rfl,_⟩|⟨g,cap,cur,rfl,_⟩<;>rfl
          refine Za v' (w':=w') (Zp ho (by simp only [builtin,Sem.run_bind,List.map_toArray,List.map_cons,List.map_nil,hrun,Result.andThen_ok,Sem.run_pure]))
           ⟨bs',st',m_mk (Zd _ _ _) hfl hb' (show (ins.set i v')[i]? =some v' from List.getElem?_set_self hil),fun p hp=> ?_⟩
          obtain rfl:p=(ob,c+1):=by simpa [AV.hs,S.hs,C.hs] using hp
          exact⟨by simp only [Zd];rfl,by simp only [Zd];exact Nat.le_refl _⟩
         ·rw [e1];trivial
       ·trivial
      ·trivial
     ·trivial
   ·trivial
  ·exact Zco hTB st hE hM o [s,x] [t,t'] ho hD
 ·exact Zco hTB st hE hM o xs ts ho hD
theorem Zg7 {K:Nat→Prop} {I:Nat→Prop} {e n:Nat} {v:Value} {xs:List (List D)} {ys:List Value} (h:ownsK K w e n v xs.length ys) (hn:0< n) (hrow:∀ r,r∈xs→r.length=n) (hI:∀ b,Blk1 v b→I b)
  (hd:∀ (i j:Nat) (r:List D) (d:D),xs[i]? =some r→r[j]? =some d→∃ y,ys[i*n+j]? =some y∧Den w I y d):Den w I v (.list xs):=by
 by_cases h0:xs.length=0
 ·have:xs= []:=List.length_eq_zero_iff.1 h0
  subst this
  rcases h.2 with ⟨rfl,_⟩|⟨g,cap,cur,rfl,_⟩
  ·exact Den.nil none 0
  ·exact Den.nil _ _
 ·obtain⟨g,cap,cur,hv,hb,hg,hle,hmax,hsz,htk⟩:=Zbx h (by omega)
  have hcl:=ZdD h hv
  have hyl:=h.1
  rw [hv]
  refine Den.list g 0 cap n xs (fun i j=>ys.getD (i*n+j) undef) (hI g (by rw [hv];rfl)) hn hrow (fun i j hi hj=> ?_) (fun i j r d hr hd'=> ?_) hle
  ·have hin:i*n+j< ys.length:=by
    have:(i+1)*n≤xs.length*n:=Nat.mul_le_mul_right _ hi
    rw [Nat.add_mul,Nat.one_mul] at this
    omega
   have:=hcl (i*n+j) ys[i*n+j] (List.getElem?_eq_getElem hin)
   rw [show 0+i*n+j=i*n+j by omega,this]
   simp [List.getD,List.getElem?_eq_getElem hin]
  ·obtain⟨y,hy,hyd⟩:=hd i j r d hr hd'
   have e:ys.getD (i*n+j) undef=y:=by simp [List.getD,hy]
   rw [e]
   exact hyd
theorem Zos {K:Nat→Prop} {I I':Nat→Prop} {v:Value} {ins ys:List Value} {T n q Te ne:Nat} {xs:List (List D)} (M:MatOk K w I v ins ys T n q Te ne xs none) (hI:∀ b,I b→I' b) (hB:∀ b,Blk (.agg (v :: ins).toArray) b→I' b):Den w I' v (.list xs):=by
 have hmono:∀ b,I b→I' b∧w.heap[b]? =w.heap[b]? :=fun b hb=>⟨hI b hb,rfl⟩
 refine Zg7 M.own M.pos.1 M.row (fun b hb=>hB b (Zcg hb)) fun i j r d hr hd=> ?_
 by_cases hj:j=q
 ·subst hj
  have hlt:i< xs.length:=(List.getElem?_eq_some_iff.1 hr).1
  have hil:i< ins.length:=by have:=M.len;simp only [insLen] at this;omega
  have hu:ins[i]? =some ins[i]:=List.getElem?_eq_getElem hil
  refine⟨ins[i],M.incell i r _ hr hu (fun c e=>by simp at e),?_⟩
  obtain⟨ct,h1,zs,h2,h3,h4⟩:=M.inn i _ hu
  have hdl:d= .list ct:=by
   simp only [contAt,hr,Option.bind_some,hd] at h1
   split at h1
   ·rename_i c e
    injection e with e
    rw [e,Option.some.inj h1]
   ·simp at h1
  rw [hdl]
  exact Zg7 h2 M.pos.2.2 h3 (fun b hb=>hB b (ZaO hu hb)) fun i' j' r' d' hr' hd'=>by
   obtain⟨y,hy,hyd⟩:=h4 i' j' r' d' hr' hd'
   exact⟨y,hy,Den.mono hmono hyd⟩
 ·obtain⟨y,hy,hyd⟩:=M.cell i j r d hr hj hd
  exact⟨y,hy,Den.mono hmono hyd⟩
def planAsg2 (env:Env) (mem:Mem) (x:Operand):Plan:=
 match opd env x with
 | .val (.one (.m o k .out))=>match mem o with
  | .mat T n _ _ _ c ko _ xs none=>bif Nat.beq k ko then .put (.val (.one (.d (.list xs)))) o (.row T n (c+1) xs false) else .bad
  |_=> .bad
 |_=>planAssignF env mem x
theorem ZiV (st:St w0 I0 nt env mem bs a w) (hE:∀ t,env' t= .junk∨env' t=env t) (hM:∀ o,mem' o= .gone∨mem' o=mem o) (o:Oper) (x:Operand) (ho:o.op= .assign x):SoundPlan P w0 I0 nt env mem a w o (planAsg2 env' mem' x):=by
 unfold planAsg2
 split
 ·rename_i ob k hx
  obtain⟨h1,_⟩:=Zb st hE x
  rw [hx] at h1
  split
  ·rename_i T n q Te ne c ko ki xs hm
   have hm':=ZbS hM hm
   cases hk:Nat.beq k ko with
   |false=>trivial
   |true=>
    obtain rfl:=Nat.eq_of_beq_eq_true hk
    obtain⟨v,ins,ys,hb,M,hd⟩:=Zb3 st hm' h1 rfl
    have hd:a.eval x=v:=hd
    have hv:Turns mem bs ob (.row T n (c+1) xs false) v:= .inr (.inr (.inr (.inr (.inr ⟨T,n,q,Te,ne,c,k,ki,xs,none,T,n,c+1,xs,false,v :: ins,hm',rfl,Nat.lt_succ_self _,hb⟩))))
    have K:=st.keeps ob (.row T n (c+1) xs false) v (Bel.refl _ w) (fun _ _ _=>rfl) (fun b hb=>by simp [Ob.mut] at hb) hv
    have hden:Den w (Stay w0 I0 (upd mem ob (.row T n (c+1) xs false)) (upd bs ob v) w) v (.list xs):=Zos M (fun b hb=>(K.stay b hb).1) fun b hbb=>by
     have hbo:Blk (bs ob) b:=by rw [hb];exact hbb
     have hmut:(mem ob).mut=true:=by rw [hm'];rfl
     obtain⟨g1,g2⟩:=(st.obs ob).block hmut b hbo
     refine .inr ⟨g1,g2,fun o' hmm hbk=> ?_⟩
     by_cases e:o'=ob
     ·subst e;rw [Zd] at hmm;simp [Ob.mut] at hmm
     ·rw [ZG _ _ e] at hmm hbk
      exact e (st.sep o' ob b hmm hmut hbk hbo)
    have st':=st.update ob (.row T n (c+1) xs false) v (Bel.refl _ w) (fun _ _ _=>rfl) (fun b hb=>by simp [Ob.mut] at hb) hv rfl (fun p hp=>by simp [Ob.hs] at hp) hden
    refine Za (a.eval x) (by simp [execOp,ho]) ⟨_,st',?_,fun p hp=>by simp [AV.hs,S.hs,C.hs] at hp⟩
    rw [hd]
    exact hden
  ·trivial
 ·exact ZeP st hE hM o x ho
theorem Zf2 {K:Nat→Prop} {I I':Nat→Prop} {v v' u:Value} {ins ys l:List Value} {T n q Te ne:Nat} {xs:List (List D)} {ct:List (List D)} {ds:List D} (M:MatOk K w I v ins ys T n q Te ne xs (some (xs.length,ct))) (hu:ins[xs.length]? =some u) (hds:ds.length=n)
  {w':World} (hown':ownsK K w' T n v' (xs.length+1) (ys++l)) (hg:w.grownBy w' v.ownBlock) (hblk:v'.ownBlock=v.ownBlock∨v'.ownBlock=some w.heap.size) (hlq:l[q]? =some u)
  (hld:∀ (j:Nat) (d:D),j≠q→ds[j]? =some d→∃ y,l[j]? =some y∧Den w I y d) (hI:∀ b,I b→I' b∧w'.heap[b]? =w.heap[b]?):
  MatOk K w' I' v' ins (ys++l) T n q Te ne (xs++ [ds.set q (.list ct)]) none:=by
 have hyl:=M.own.1
 have hinlt:∀ k z b,ins[k]? =some z→Blk1 z b→b< w.heap.size:=fun k z b hz hb=>by
  obtain⟨c,_,zz,h1,_⟩:=M.inn k z hz
  exact h1.lt ((ZM h1).1 hb)
 have hinner:∀ k z,ins[k]? =some z→∀ b,Blk1 z b→w'.heap[b]? =w.heap[b]? :=fun k z hz b hb=>hg.block b (hinlt k z b hz hb) (fun e=>M.apart k z b hz hb ((ZM M.own).2 e.symm))
 have hlen:=M.len
 simp only [insLen] at hlen
 have hcase:∀ k r,(xs++ [ds.set q (.list ct)])[k]? =some r→(k< xs.length∧xs[k]? =some r)∨(k=xs.length∧r=ds.set q (.list ct)):=fun k r hk=>by
  by_cases h:k< xs.length
  ·rw [List.getElem?_append_left h] at hk;exact .inl ⟨h,hk⟩
  ·rw [List.getElem?_append_right (by omega)] at hk
   have h2:=(List.getElem?_eq_some_iff.1 hk).1
   simp only [List.length_singleton] at h2
   have h3:k - xs.length=0:=by omega
   rw [h3] at hk
   exact .inr ⟨by omega,(Option.some.inj hk).symm⟩
 have hmul:∀ k,k< xs.length→k*n+n≤xs.length*n:=fun k hk=>by
  have:(k+1)*n≤xs.length*n:=Nat.mul_le_mul_right _ hk
  rwa [Nat.add_mul,Nat.one_mul] at this
 refine⟨by rw [List.length_append];exact hown',M.pos,by simp only [insLen,List.length_append,List.length_singleton];omega,fun r hr=> ?_,fun k j r d h1 h2 h3=> ?_,fun k r z h1 h2 _=> ?_,fun k z hz=> ?_,fun k z b hz hb hv=> ?_,M.apart2⟩
 ·rcases List.mem_append.1 hr with h|h
  ·exact M.row r h
  ·rw [List.mem_singleton.1 h,List.length_set];exact hds
 ·rcases hcase k r h1 with ⟨hk,hr⟩|⟨rfl,rfl⟩
  ·obtain⟨y,hy,hd⟩:=M.cell k j r d hr h2 h3
   exact⟨y,by rw [List.getElem?_append_left (List.getElem?_eq_some_iff.1 hy).1];exact hy,Den.mono hI hd⟩
  ·rw [List.getElem?_set_ne (Ne.symm h2)] at h3
   obtain⟨y,hy,hd⟩:=hld j d h2 h3
   exact⟨y,by rw [List.getElem?_append_right (by omega),show xs.length*n+j - ys.length=j by omega];exact hy,Den.mono hI hd⟩
 ·rcases hcase k r h1 with ⟨hk,hr⟩|⟨rfl,rfl⟩
  ·have:=M.incell k r z hr h2 (fun c e=>by injection e with e;injection e with e1 e2;omega)
   rw [List.getElem?_append_left (List.getElem?_eq_some_iff.1 this).1];exact this
  ·rw [hu] at h2
   obtain rfl:=Option.some.inj h2
   rw [List.getElem?_append_right (by omega),show xs.length*n+q - ys.length=q by omega];exact hlq
 ·obtain⟨c,h1,h2⟩:=M.inn k z hz
  refine⟨c,?_,h2.keeps hI (hinner k z hz)⟩
  have hkl:k< xs.length∨k=xs.length:=by have:=(List.getElem?_eq_some_iff.1 hz).1;omega
  rcases hkl with hk|rfl
  ·have hb:Nat.beq k xs.length=false:=by
    cases e:Nat.beq k xs.length with
    |false=>rfl
    |true=>exact absurd (Nat.eq_of_beq_eq_true e) (by omega)
   simp only [contAt,hb,cond_false] at h1 ⊢
   rw [List.getElem?_append_left hk]
   exact h1
  ·have e:contAt xs q (some (xs.length,ct)) xs.length=some ct:=by simp [contAt]
   rw [e] at h1
   obtain rfl:=Option.some.inj h1
   have hqn:=M.pos.2.1
   simp only [contAt]
   rw [List.getElem?_append_right (Nat.le_refl _),Nat.sub_self]
   simp [hds,hqn]
 ·have h3:=(ZM hown').1 hv
  rcases hblk with h|h
  ·exact M.apart k z b hz hb ((ZM M.own).2 (by rw [← h];exact h3))
  ·rw [h] at h3
   have:=hinlt k z b hz hb
   have:=Option.some.inj h3
   omega
def planAppO (TB:List (Nat×Ty)) (mem:Mem) (o k:Nat) (t t':TypeId) (v:AV):Plan:=
 match v with
 | .val (.one (.m o' k' (.one i ds)))=>match mem o with
  | .mat T n q Te ne c ko ki rows (some (j,ct))=>bif Nat.beq o' o&&(Nat.beq k ko&&(Nat.beq k' ki&&Nat.beq t t')) then (match look TB t with
   |some ty=>match ty.elem with
    |some e=>match look TB e with
     |some te=>bif Nat.beq e T&&(Nat.beq te.size n&&Nat.blt 0 te.size) then
       .putIf (j=rows.length∧i=rows.length∧(rows.length+1)*te.bytes≤140737488355328∧rows.length+1≤140737488355328) (.val (.one (.m o (c+1) .out))) o (.mat T n q Te ne (c+1) (c+1) ki (rows++ [ds.set q (.list ct)]) none) else .bad
     |none=> .bad
    |none=> .bad
   |none=> .bad) else .bad
  |_=> .bad
 |_=> .bad
theorem ZiW {TB:List (Nat×Ty)} (hTB:TBok P TB) (st:St w0 I0 nt env mem bs a w) (hE:∀ t,env' t= .junk∨env' t=env t) (hM:∀ o,mem' o= .gone∨mem' o=mem o)
  (o:Oper) (s x:Operand) (t t':TypeId) (ho:o.op= .call { callee:= .builtin .append,args:=⟨[s,x]⟩,argTypes:=⟨[t,t']⟩ }) {ob k:Nat} (hs:opd env' s= .val (.one (.m ob k .out))):SoundPlan P w0 I0 nt env mem a w o (planAppO TB mem' ob k t t' (opd env' x)):=by
 unfold planAppO
 split
 ·rename_i o' k' i ds hx
  split
  ·rename_i T n q Te ne c ko ki rows j ct hm
   have hm':=ZbS hM hm
   have hver:ko≤c∧ki≤c:=by
    have:=st.obs ob
    rw [hm'] at this
    exact this.1
   cases hc:(Nat.beq o' ob&&(Nat.beq k ko&&(Nat.beq k' ki&&Nat.beq t t'))) with
   |false=>trivial
   |true=>
    simp only [Bool.and_eq_true] at hc
    obtain rfl:=Nat.eq_of_beq_eq_true hc.1
    obtain rfl:=Nat.eq_of_beq_eq_true hc.2.1
    obtain rfl:=Nat.eq_of_beq_eq_true hc.2.2.1
    obtain rfl:=Nat.eq_of_beq_eq_true hc.2.2.2
    simp only [cond_true]
    split
    ·rename_i ty hty
     obtain⟨ti,tu,tz,hi⟩:=Zj (hTB t ty (Ze hty))
     split
     ·rename_i e he
      split
      ·rename_i te hte
       obtain⟨ei,eu,ez,hei⟩:=Zj (hTB e te (Ze hte))
       cases hcc:(Nat.beq e T&&(Nat.beq te.size n&&Nat.blt 0 te.size)) with
       |false=>trivial
       |true=>
        simp only [Bool.and_eq_true] at hcc
        obtain rfl:=Nat.eq_of_beq_eq_true hcc.1
        have hne:=Nat.eq_of_beq_eq_true hcc.2.1
        have hpos:0< te.size:=Nat.le_of_ble_eq_true hcc.2.2
        simp only [cond_true]
        intro ⟨hj,hii,b2,b3⟩
        subst hj;subst hii
        obtain⟨h1,_⟩:=Zb st hE x
        obtain⟨g1,_⟩:=Zb st hE s
        rw [hs] at g1
        rw [hx] at h1
        obtain⟨v,ins,ys,hb,M,hd⟩:=Zb3 st hm' g1 rfl
        have hd:a.eval s=v:=hd
        obtain⟨v2,ins2,_,hb2,_,b,cp,u,f1,f2,f3,f4,f5,f6,f7⟩:=Zb3 st hm' h1 rfl
        rw [hb] at hb2
        obtain⟨rfl,rfl⟩:=Zhx hb2
        have hqn:=M.pos.2.1
        have hfl:flat u=true:=by
         obtain⟨ct',_,zs,h2,_⟩:=M.inn _ u f4
         rcases h2.2 with ⟨rfl,_⟩|⟨g,cap,cur,rfl,_⟩<;>rfl
        have hdx:Den w (Stay w0 I0 mem bs w) (a.eval x) (.list [ds.set q (.v u)]):=by
         rw [f2]
         refine Den.list b 0 cp n [ds.set q (.v u)] (fun _ j=>(w.cell? ⟨b,j,none⟩).getD undef) f1 (by omega) (fun r hr=>by rw [List.mem_singleton.1 hr,List.length_set];exact f5) (fun p l hp hl=> ?_) (fun p l r d hp hl=> ?_) f3
         ·have:p=0:=by simp at hp;omega
          subst this
          rw [show 0+0*n+l=l by omega]
          by_cases e:l=q
          ·subst e;rw [f6];rfl
          ·obtain⟨y,hy,_⟩:=f7 l ds[l] e (List.getElem?_eq_getElem (by omega))
           rw [hy];rfl
         ·have hp0:r=ds.set q (.v u):=by
           have:=List.mem_of_getElem? hp
           exact List.mem_singleton.1 this
          subst hp0
          by_cases e:l=q
          ·subst e
           rw [List.getElem?_set_self (by omega)] at hl
           obtain rfl:=(Option.some.inj hl).symm
           rw [f6];exact Den.v u hfl
          ·rw [List.getElem?_set_ne (Ne.symm e)] at hl
           obtain⟨y,hy,hyd⟩:=f7 l d e hl
           rw [hy];exact hyd
        have hown2:ownsK w0.K w e te.size (a.eval s) rows.length ys:=by rw [hne,hd];exact M.own
        obtain⟨v',w',l,hrun,hll,hown',hgrow,hblk,hld⟩:=Zkn st hi he hei hpos hdx hown2 (fun r hr=>by rw [List.mem_singleton.1 hr,List.length_set,f5,hne]) b2 b3 o.type
        rw [hne] at hown'
        rw [hd] at hgrow hblk
        have hld1:∀ (j:Nat) (d:D),(ds.set q (.v u))[j]? =some d→∃ y,l[j]? =some y∧Den w (Stay w0 I0 mem bs w) y d:=fun j d hj=>by
         have:=hld 0 j _ d rfl hj
         simpa using this
        have hlq:l[q]? =some u:=by
         obtain⟨y,hy,hyd⟩:=hld1 q (.v u) (List.getElem?_set_self (by omega))
         cases hyd
         exact hy
        have hbel:Bel w0.K w w':=⟨hgrow.os,hgrow.tape,hgrow.output,hgrow.size,fun k' hk'=>hgrow.block k' (st.ltK hk') (fun e=>M.own.not e.symm hk')⟩
        obtain⟨bs',st',hb',hok,_⟩:=ZcQ st hm' hb hbel (fun k' hk' hne'=>hgrow.block k' hk' (fun e=>hne' (Zcg ((ZM M.own).2 e.symm)))) (c':=c+1) (ko':=c+1) (ki':=k') (xs':=rows++ [ds.set q (.list ct)]) (pd':=none) (v':=v') (ins':=ins) (ys':=ys++l)
         ⟨Nat.le_succ _,Nat.le_refl _,by omega⟩ (.inr (by omega)) (.inl ⟨rfl,fun _ _ h=>h⟩) (fun b hb'=>by
          obtain⟨z,hz,hzb⟩:∃ z,z∈v' :: ins∧Blk1 z b:=by simpa [Blk] using hb'
          rcases List.mem_cons.1 hz with rfl|hz
          ·have h3:=(ZM hown').1 hzb
           rcases hblk with h4|h4
           ·exact .inl (Zcg ((ZM M.own).2 (by rw [← h4];exact h3)))
           ·have hlt:=hown'.lt h3
            rw [h4] at h3
            obtain rfl:=Option.some.inj h3
            exact .inr ⟨Nat.le_refl _,hlt⟩
          ·obtain⟨p,hp⟩:=List.getElem?_of_mem hz
           exact .inl (ZaO hp hzb)) (fun I' hI'=>Zf2 M f4 f5 hown' hgrow hblk hlq (fun j d hj hd'=>hld1 j d (by rw [List.getElem?_set_ne (Ne.symm hj)];exact hd')) hI')
        have hflv:flat v'=true:=by rcases hown'.2 with ⟨rfl,_⟩|⟨g,cap,cur,rfl,_⟩<;>rfl
        refine Za v' (w':=w') (Zp ho (by simp only [builtin,Sem.run_bind,List.map_toArray,List.map_cons,List.map_nil,hrun,Result.andThen_ok,Sem.run_pure]))
         ⟨bs',st',m_mk (Zd _ _ _) hflv hb' rfl,fun p hp=> ?_⟩
        obtain rfl:p=(o',c+1):=by simpa [AV.hs,S.hs,C.hs] using hp
        exact⟨by simp only [Zd];rfl,by simp only [Zd];exact Nat.le_refl _⟩
      ·trivial
     ·trivial
    ·trivial
  ·trivial
 ·trivial
def planApp3 (P:Program) (TB:List (Nat×Ty)) (env:Env) (mem:Mem) (dst:Option Nat) (ts:List TypeId) (xs:List Operand):Plan:=
 match xs,ts with
 | [s,x], [t,t']=>match opd env s with
  | .val (.one (.m o k .out))=>planAppO TB mem o k t t' (opd env x)
  |_=>planApp2 P TB env mem dst [t,t'] [s,x]
 |_,_=>planApp2 P TB env mem dst ts xs
theorem ZiX {TB:List (Nat×Ty)} (hTB:TBok P TB) (st:St w0 I0 nt env mem bs a w) (hE:∀ t,env' t= .junk∨env' t=env t) (hM:∀ o,mem' o= .gone∨mem' o=mem o)
  (o:Oper) (xs:List Operand) (ts:List TypeId) (ho:o.op= .call { callee:= .builtin .append,args:=⟨xs⟩,argTypes:=⟨ts⟩ }) (hD:∀ d,o.dst=some d→mem' d=mem d):SoundPlan P w0 I0 nt env mem a w o (planApp3 P TB env' mem' o.dst ts xs):=by
 unfold planApp3
 split
 ·rename_i s x t t'
  split
  ·rename_i ob k hs
   exact ZiW hTB st hE hM o s x t t' ho hs
  ·exact Zee hTB st hE hM o [s,x] [t,t'] ho hD
 ·exact Zee hTB st hE hM o xs ts ho hD
end
section
variable {P : Program} {G : World → Prop} {w0 : Base} {I0 : Nat → Prop} {nt : Shape} {env env' : Env} {mem mem' : Mem} {bs : Bs} {a : Act} {w : World}
theorem Zf4 (st:St w0 I0 nt env mem bs a w) {d:Nat} (hgone:mem d= .gone) {w':World} (hb:Below w.heap.size w w') {v:Value} {ins ys:List Value} {T n q Te ne:Nat} {xs:List (List D)} {pd:Option (Nat×List (List D))}
  (hblk:∀ b,Blk (.agg (v :: ins).toArray) b→w.heap.size≤b∧b< w'.heap.size) (M:∀ I':Nat→Prop,(∀ b,Stay w0 I0 mem bs w b→I' b∧w'.heap[b]? =w.heap[b]?)→MatOk w0.K w' I' v ins ys T n q Te ne xs pd):
  ∃ bs',St w0 I0 nt env (upd mem d (.mat T n q Te ne 0 0 0 xs pd)) bs' a w'∧bs' d= .agg (v :: ins).toArray:=by
 have hb0:Bel w0.K w w':=st.bel hb
 have hk:∀ k,k< w.heap.size→((mem d).mut=true→¬ Blk (bs d) k)→w'.heap[k]? =w.heap[k]? :=fun k hk _=>hb.block k hk
 have hx:∀ b,(Ob.mat T n q Te ne 0 0 0 xs pd).mut=true→Blk (.agg (v :: ins).toArray) b→((mem d).mut=true∧Blk (bs d) b)∨(w.heap.size≤b∧b< w'.heap.size):=fun b _ hbx=> .inr (hblk b hbx)
 have hv:Turns mem bs d (.mat T n q Te ne 0 0 0 xs pd) (.agg (v :: ins).toArray):= .inl (by rw [hgone];rfl)
 have K:=st.keeps d (.mat T n q Te ne 0 0 0 xs pd) (.agg (v :: ins).toArray) hb0 hk hx hv
 exact⟨upd bs d (.agg (v :: ins).toArray),st.update d _ _ hb0 hk hx hv rfl (fun p hp=>by simp [Ob.hs] at hp) ⟨⟨Nat.le_refl _,Nat.le_refl _⟩,v,ins,ys,rfl,M _ K.stay⟩,Zd _ _ _⟩
theorem Zk5 (K:Nat→Prop) (I:Nat→Prop) {T n q Te ne:Nat} (h:0< n∧q< n∧0< ne):MatOk K w I (.slice none 0 0) [] [] T n q Te ne [] none:=
 ⟨Za6 _ _ _ _,h,rfl,fun r hr=>by simp at hr,fun i j r d hi=>by simp at hi,fun i r u hi=>by simp at hi,fun i u hi=>by simp at hi,fun i u b hi=>by simp at hi,fun i j u u' b hi=>by simp at hi⟩
theorem Zf3 {K:Nat→Prop} {I I':Nat→Prop} {v u:Value} {ins ys:List Value} {T n q Te ne:Nat} {xs zs:List (List D)} (M:MatOk K w I v ins ys T n q Te ne xs none) {w':World} (hb:Below w.heap.size w w')
  (hI:∀ b,I b→I' b∧w'.heap[b]? =w.heap[b]?) (hu:InOk K w' I' u Te ne zs) (hnew:∀ b,Blk1 u b→w.heap.size≤b) (hlt:∀ b,Blk (.agg (v :: ins).toArray) b→b< w.heap.size):
  MatOk K w' I' v (ins++ [u]) ys T n q Te ne xs (some (xs.length,zs)):=by
 have M':=M.keeps hI fun b hb'=>hb.block b (hlt b hb')
 have hlen:ins.length=xs.length:=M.len
 have hcase:∀ i z,(ins++ [u])[i]? =some z→(i< xs.length∧ins[i]? =some z)∨(i=xs.length∧z=u):=fun i z hi=>by
  by_cases h:i< ins.length
  ·rw [List.getElem?_append_left h] at hi;exact .inl ⟨by omega,hi⟩
  ·rw [List.getElem?_append_right (by omega)] at hi
   have h2:=(List.getElem?_eq_some_iff.1 hi).1
   simp only [List.length_singleton] at h2
   have h3:i - ins.length=0:=by omega
   rw [h3] at hi
   exact .inr ⟨by omega,(Option.some.inj hi).symm⟩
 refine⟨M'.own,M.pos,by simp only [insLen,List.length_append,List.length_singleton];omega,M.row,M'.cell,fun i r z hi hz _=> ?_,fun i z hz=> ?_,fun i z b hz hb1=> ?_,fun i j z z' b hz hz' hb1 hb2=> ?_⟩
 ·have hlt':=(List.getElem?_eq_some_iff.1 hi).1
  rcases hcase i z hz with ⟨_,h⟩|⟨h,_⟩
  ·exact M'.incell i r z hi h (fun c e=>by simp at e)
  ·omega
 ·rcases hcase i z hz with ⟨h1,h⟩|⟨rfl,rfl⟩
  ·obtain⟨c,h2,h3⟩:=M'.inn i z h
   have hbq:Nat.beq i xs.length=false:=by
    cases e:Nat.beq i xs.length with
    |false=>rfl
    |true=>exact absurd (Nat.eq_of_beq_eq_true e) (by omega)
   exact⟨c,by simp only [contAt,hbq,cond_false] at h2 ⊢;exact h2,h3⟩
  ·exact⟨zs,by simp [contAt],hu⟩
 ·rcases hcase i z hz with ⟨_,h⟩|⟨_,rfl⟩
  ·exact M'.apart i z b h hb1
  ·intro hv
   have h1:=hnew b hb1
   have h2:=hlt b (Zcg hv)
   omega
 ·rcases hcase i z hz with ⟨h1,h⟩|⟨h1,rfl⟩<;>rcases hcase j z' hz' with ⟨g1,g⟩|⟨g1,rfl⟩
  ·exact M'.apart2 i j z z' b h g hb1 hb2
  ·have f1:=hnew b hb2
   have f2:=hlt b (ZaO h hb1)
   omega
  ·have f1:=hnew b hb1
   have f2:=hlt b (ZaO g hb2)
   omega
  ·omega
theorem Zdj {K:Nat→Prop} {I I':Nat→Prop} {w':World} {x:Value} {T n:Nat} {xs:List (List D)} (hf:Fresh w I w' x T n xs) (hv:∀ r,r∈xs→∀ d,d∈r→∃ v,d= .v v) (hK:∀ b,K b→b< w.heap.size):
  InOk K w' I' x T n xs∧(∀ b,Blk1 x b→w.heap.size≤b∧b< w'.heap.size)∧flat x=true:=by
 obtain⟨ys,hown,hn,hyl,hrow,hden⟩:=hf
 refine⟨⟨ys,⟨hown.1,?_⟩,hrow,fun i j r d hr hd=> ?_⟩,fun b hb=> ?_,?_⟩
 ·rcases hown.2 with h|⟨g,cap,cur,h1,h2,h3⟩
  ·exact .inl h
  ·exact .inr ⟨g,cap,cur,h1,fun h=>by have:=hK g h;omega,h3⟩
 ·obtain⟨y,hy,hd'⟩:=hden i j r d hr hd
  obtain⟨v,rfl⟩:=hv r (List.mem_of_getElem? hr) d (List.mem_of_getElem? hd)
  refine⟨y,hy,?_⟩
  cases hd' with
  |v _ hx=>exact .v _ hx
 ·refine hown.lt b ?_
  rcases hown.2 with ⟨rfl,_⟩|⟨g,cap,cur,rfl,_⟩
  ·simp [Blk1] at hb
  ·simpa [Blk1,Value.ownBlock] using hb
 ·rcases hown.2 with ⟨rfl,_⟩|⟨g,cap,cur,rfl,_⟩<;>rfl
def lentM (env:Env):List Operand→Option (Nat×Nat×Nat)
 | [x]=>match opd env x with
  | .val (.one (.m o k (.inn i)))=>some (o,k,i)
  |_=>none
 |_=>none
theorem Zm3 {xs:List Operand} {o k i:Nat} (h:lentM env xs=some (o,k,i)):∃ x,xs= [x]∧opd env x= .val (.one (.m o k (.inn i))):=by
 unfold lentM at h
 split at h
 ·rename_i x
  split at h
  ·rename_i o' k' i' hx
   simp only [Option.some.injEq,Prod.mk.injEq] at h
   obtain⟨rfl,rfl,rfl⟩:=h
   exact⟨x,rfl,hx⟩
  ·simp at h
 ·simp at h
def FlatL (zs:List (List D)):Prop:=∀ r,r∈zs→∀ d,d∈r→∃ v,d=D.v v
def planCallM (P:Program) (G:World→Prop) (env:Env) (mem:Mem) (dst:Option Nat) (f:Operand) (xs:List Operand):Plan:=
 match opd env f with
 | .val (.one (.d (.v (.func (.func g) first cap))))=>match first.toList,cap.toList with
  | [], []=>match lentM env xs with
   |some (o,k,i)=>match mem o with
    | .mat T n q Te ne c ko ki rows none=>bif Nat.beq k ki then .askO o (fun r ob=>∃ ct zs,contAt rows q none i=some ct∧SpecR P G g [.val (.one (.d (.list ct)))] Te ne zs∧FlatL zs∧
      r= .val (.one (.m o k (.inn rows.length)))∧ob= .mat T n q Te ne c ko k rows (some (rows.length,zs))) else .bad
    |_=> .bad
   |none=>match dst with
    |some d=>match mem d with
     | .gone=>argAVs true mem env xs (fun as=> .askO d (fun r ob=>∃ T n q Te ne zs,(0< n∧q< n∧0< ne)∧SpecR P G g as Te ne zs∧FlatL zs∧
       r= .val (.one (.m d 0 (.inn 0)))∧ob= .mat T n q Te ne 0 0 0 [] (some (0,zs)))) .bad
     |_=> .bad
    |none=> .bad
  |_,_=> .bad
 |_=> .bad
theorem ZgQ (hG:G w) (st:St w0 I0 nt env mem bs a w) (hE:∀ t,env' t= .junk∨env' t=env t) (hM:∀ o,mem' o= .gone∨mem' o=mem o)
  (o:Oper) (dst:Option Nat) (f:Operand) (xs:List Operand) (ts:Array TypeId) (ho:o.op= .call { callee:= .value f,args:=⟨xs⟩,argTypes:=ts }) (hD:∀ d,dst=some d→mem' d=mem d):SoundPlan P w0 I0 nt env mem a w o (planCallM P G env' mem' dst f xs):=by
 obtain⟨h1,_⟩:=Zb st hE f
 unfold planCallM
 split
 ·rename_i g first cap hf
  rw [hf] at h1
  have ef:=Zg h1
  split
  ·rename_i e1 e2
   have e1':first=#[]:=by cases first;simpa using e1
   have e2':cap=#[]:=by cases cap;simpa using e2
   subst e1' e2'
   have hent:Enters P g→(execOp a.eval o).run P w= .ok (.enter g (xs.map a.eval).toArray) w:=fun hen=>by
    have hrun:=hen (xs.map a.eval).toArray w
    simp only [execOp,ho,resolve,ef,Deferred.ofValue,Sem.run_bind,Sem.run_pure,Result.andThen_ok,invoke]
    simpa using hrun
   split
   ·rename_i ob k i hl
    split
    ·rename_i T n q Te ne c ko ki rows hm
     have hm':=ZbS hM hm
     cases hc:Nat.beq k ki with
     |false=>trivial
     |true=>
      obtain rfl:=Nat.eq_of_beq_eq_true hc
      simp only [cond_true]
      intro r obj ⟨ct,zs,hct,hspec,hflat,hr,hob⟩
      subst hr;subst hob
      obtain⟨x,rfl,hx⟩:=Zm3 hl
      obtain⟨g1,g2⟩:=Zb st hE x
      rw [hx] at g1 g2
      obtain⟨v,ins,ys,hb,M,hd⟩:=Zb3 st hm' g1 rfl
      have hd:ins[i]? =some (a.eval x):=hd
      have hmut:(mem ob).mut=true:=by rw [hm'];rfl
      have hlt:∀ b,Blk (.agg (v :: ins).toArray) b→b< w.heap.size:=fun b hbb=>((st.obs ob).block hmut b (by rw [hb];exact hbb)).2
      obtain⟨ct',hct',zz,hown,hrow,hcell⟩:=M.inn i _ hd
      rw [hct] at hct'
      obtain rfl:=Option.some.inj hct'
      have hden:Den w (fun b=>Stay w0 I0 mem bs w b∨Blk1 (a.eval x) b) (a.eval x) (.list ct):=Zg7 hown M.pos.2.2 hrow (fun b hb=> .inr hb) fun i j r d hi hj=>by
       obtain⟨y,hy,hyd⟩:=hcell i j r d hi hj
       exact⟨y,hy,Den.mono (fun b hb=>⟨.inl hb,rfl⟩) hyd⟩
      have hcall:=hspec.2 w (fun b=>Stay w0 I0 mem bs w b∨Blk1 (a.eval x) b) [a.eval x] hG (fun b hb=>by
       rcases hb with (⟨_,h⟩|⟨_,h,_⟩)|h
       ·exact st.ltK h
       ·exact h
       ·exact hlt b (ZaO hd h)) (Rel2.nil.cons hden)
      refine ZK (f:=g) (args:= [a.eval x].toArray) (w':=w) (hent hspec.1) (Calls.mono hcall fun e w' ⟨x',he,hf',hbl⟩=>⟨x',he,?_⟩)
      obtain⟨hin,hnew,hfl⟩:=Zdj (K:=w0.K) (I':=Stay w0 I0 mem bs w) hf' hflat (fun b hb=>st.ltK hb)
      obtain⟨bs',st',hb',hok,_⟩:=ZcQ st hm' hb (st.bel hbl) (fun k' hk' _=>hbl.block k' hk') (c':=c) (ko':=ko) (ki':=k) (xs':=rows) (pd':=some (rows.length,zs)) (v':=v) (ins':=ins++ [x']) (ys':=ys)
       (by have:=st.obs ob;rw [hm'] at this;exact⟨Nat.le_refl _,this.1⟩) (.inl ⟨rfl,rfl⟩) (.inl ⟨rfl,fun j u hj=>by rw [List.getElem?_append_left (List.getElem?_eq_some_iff.1 hj).1];exact hj⟩) (fun b hbb=>by
        obtain⟨z,hz,hzb⟩:∃ z,z∈v :: (ins++ [x'])∧Blk1 z b:=by simpa [Blk] using hbb
        rcases List.mem_cons.1 hz with rfl|hz
        ·exact .inl (Zcg hzb)
        ·rcases List.mem_append.1 hz with hz|hz
         ·obtain⟨p,hp⟩:=List.getElem?_of_mem hz
          exact .inl (ZaO hp hzb)
         ·rw [List.mem_singleton.1 hz] at hzb
          exact .inr (hnew b hzb)) (fun I' hI'=>Zf3 M hbl hI' (Zdj hf' hflat (fun b hb=>st.ltK hb)).1 (fun b hb=>(hnew b hb).1) hlt)
      refine⟨bs',st',m_mk (Zd _ _ _) hfl hb' ?_,fun p hp=> ?_⟩
      ·show (ins++ [x'])[rows.length]? =some x'
       have hlen:ins.length=rows.length:=M.len
       rw [← hlen];simp
      ·exact hok p (g2 p (by simpa [AV.hs,S.hs,C.hs] using hp))
    ·trivial
   ·split
    ·rename_i d
     split
     ·rename_i hg
      have hgone:mem d= .gone:=by rw [← hD d rfl];exact hg
      rcases Zag true st hE hM xs (fun as=>Plan.askO d (fun r ob=>∃ T n q Te ne zs,(0< n∧q< n∧0< ne)∧SpecR P G g as Te ne zs∧FlatL zs∧r= .val (.one (.m d 0 (.inn 0)))∧ob= .mat T n q Te ne 0 0 0 [] (some (0,zs)))) Plan.bad with ⟨as,e,hl⟩|e
      ·rw [e]
       intro r obj ⟨T,n,q,Te,ne,zs,hpos,hspec,hflat,hr,hob⟩
       subst hr;subst hob
       have hcall:=hspec.2 w (Stay w0 I0 mem bs w) (xs.map a.eval) hG (fun b hb=>by
        rcases hb with ⟨_,h⟩|⟨_,h,_⟩
        ·exact st.ltK h
        ·exact h) (hl _ _)
       refine ZK (f:=g) (args:=(xs.map a.eval).toArray) (w':=w) (hent hspec.1) (Calls.mono hcall fun e w' ⟨x',he,hf',hbl⟩=>⟨x',he,?_⟩)
       obtain⟨_,hnew,hfl⟩:=Zdj (K:=w0.K) (I':=Stay w0 I0 mem bs w) hf' hflat (fun b hb=>st.ltK hb)
       obtain⟨bs',st',hb'⟩:=Zf4 st hgone hbl (v:= .slice none 0 0) (ins:= [x']) (ys:= []) (T:=T) (n:=n) (q:=q) (Te:=Te) (ne:=ne) (xs:= []) (pd:=some (0,zs)) (fun b hbb=>by
        obtain⟨z,hz,hzb⟩:∃ z,z∈ [Value.slice none 0 0,x']∧Blk1 z b:=by simpa [Blk] using hbb
        rcases List.mem_cons.1 hz with rfl|hz
        ·exact hzb.elim
        ·rw [List.mem_singleton.1 hz] at hzb;exact hnew b hzb) (fun I' hI'=>Zf3 (ins:= []) (Zk5 w0.K (Stay w0 I0 mem bs w) hpos) hbl hI' (Zdj hf' hflat (fun b hb=>st.ltK hb)).1 (fun b hb=>(hnew b hb).1) (fun b hbb=>by
          obtain⟨z,hz,hzb⟩:∃ z,z∈ [Value.slice none 0 0]∧Blk1 z b:=by simpa [Blk] using hbb
          rw [List.mem_singleton.1 hz] at hzb;exact hzb.elim))
       refine⟨bs',st',m_mk (Zd _ _ _) hfl hb' rfl,fun p hp=> ?_⟩
       obtain rfl:p=(d,0):=by simpa [AV.hs,S.hs,C.hs] using hp
       exact⟨by simp only [Zd];rfl,by simp only [Zd];exact Nat.le_refl _⟩
      ·rw [e];trivial
     ·trivial
    ·trivial
  ·trivial
 ·trivial
def planMakeMat (TB:List (Nat×Ty)) (env:Env) (mem:Mem) (dst:Option Nat) (T:TypeId) (l c:Operand):Plan:=
 match look TB T with
 |some ty=>match ty.elem with
  |some e=>match look TB e with
   |some te=>match dst with
    |some d=>match mem d with
     | .gone=>bif Nat.blt 0 te.size then intK (opd env l) (fun m=>intK (opd env c) (fun m'=>
       .askO d (fun r ob=>∃ q Te ne,(0≤m∧m'=m∧m*te.bytes≤140737488355328∧m≤140737488355328)∧(q< te.size∧0< ne)∧te.zero[q]? =some (.d (.v (.slice none 0 0)))∧
        r= .val (.one (.m d 0 .out))∧ob= .mat e te.size q Te ne 0 0 0 (List.replicate m.toNat ((te.zero.map cD).set q (.list []))) none)) .bad) .bad else .bad
     |_=> .bad
    |none=> .bad
   |none=> .bad
  |none=> .bad
 |none=> .bad
theorem ZeL {TB:List (Nat×Ty)} (hTB:TBok P TB) (st:St w0 I0 nt env mem bs a w) (hE:∀ t,env' t= .junk∨env' t=env t)
  (o:Oper) (T:TypeId) (l c:Operand) (ho:o.op= .makeSlice T l c) (hD:∀ d,o.dst=some d→mem' d=mem d):SoundPlan P w0 I0 nt env mem a w o (planMakeMat TB env' mem' o.dst T l c):=by
 unfold planMakeMat
 split
 ·rename_i ty hty
  obtain⟨ti,tu,tz,hi⟩:=Zj (hTB T ty (Ze hty))
  split
  ·rename_i e he
   split
   ·rename_i te hte
    obtain⟨ei,eu,ez,hei⟩:=Zj (hTB e te (Ze hte))
    split
    ·rename_i d hd
     split
     ·rename_i hg
      rw [hD d hd] at hg
      cases hb:Nat.blt 0 te.size with
      |false=>trivial
      |true=>
       have hpos:0< te.size:=Nat.le_of_ble_eq_true hb
       simp only [cond_true]
       obtain⟨h1,_⟩:=Zb st hE l
       obtain⟨h2,_⟩:=Zb st hE c
       rcases Zx (opd env' l) (fun m=>intK (opd env' c) (fun m'=>Plan.askO d (fun r ob=>∃ q Te ne,(0≤m∧m'=m∧m*te.bytes≤140737488355328∧m≤140737488355328)∧(q< te.size∧0< ne)∧te.zero[q]? =some (.d (.v (.slice none 0 0)))∧
        r= .val (.one (.m d 0 .out))∧ob= .mat e te.size q Te ne 0 0 0 (List.replicate m.toNat ((te.zero.map cD).set q (.list []))) none)) .bad) Plan.bad with ⟨kd,m,g1,g2⟩|g2
       ·rw [g2]
        rcases Zx (opd env' c) (fun m'=>Plan.askO d (fun r ob=>∃ q Te ne,(0≤m∧m'=m∧m*te.bytes≤140737488355328∧m≤140737488355328)∧(q< te.size∧0< ne)∧te.zero[q]? =some (.d (.v (.slice none 0 0)))∧
         r= .val (.one (.m d 0 .out))∧ob= .mat e te.size q Te ne 0 0 0 (List.replicate m.toNat ((te.zero.map cD).set q (.list []))) none)) Plan.bad with ⟨kd',m',f1,f2⟩|f2
        ·rw [f2]
         intro r obj ⟨q,Te,ne,⟨h0,hmm,hby,hmx⟩,hqn,hzq,hr,hob⟩
         subst hmm;subst hr;subst hob
         rw [g1] at h1
         rw [f1] at h2
         have el:=Zg h1
         have ec:=Zg h2
         obtain⟨n,rfl⟩:∃ n:Nat,m'=n:=⟨m'.toNat,by omega⟩
         have hby':ei.bytes*n≤281474976710656:=by
          rw [← hei.bytes,Nat.mul_comm]
          have:((n*te.bytes:Nat):Int)≤140737488355328:=by simpa using hby
          omega
         have hlen:n≤maxLen:=by have:=ZaB;omega
         have h63':(n:Int)≤9223372036854775807:=by omega
         have hb':(ei.bytes:Int)*(n:Int)≤281474976710656:=by
          have h:((ei.bytes*n:Nat):Int)≤281474976710656:=by omega
          rwa [Int.natCast_mul] at h
         have hr:=run_make (P:=P) w T e ei ez (hi.slice he) hei.info hei.hz kd kd' n n (by omega) (Int.le_refl _) hb' h63'
         simp only [Int.toNat_natCast] at hr
         have hown:ownsK w0.K (w.alloc (.cells (madeCells ez.cells (n*ei.size)) e)) e ei.size (.slice (some ⟨w.heap.size,0,none⟩) n n) n (madeCells ez.cells (n*ei.size)).toList:=
          ZP (World.ownsRow_lit w _ n (Nat.zero_le _) hlen (size_madeCells _ _)) fun k hk=>by obtain rfl:=Option.some.inj hk;exact st.newK (Nat.le_refl _)
         rw [← hei.size] at hr hown
         have hcell:∀ k,k< n*te.size→(madeCells ez.cells (n*te.size)).toList[k]? =ez.cells.toList[k % te.size]? :=by
          intro k hk
          have h5:k % te.size< ez.cells.size:=by rw [hei.zs,← hei.size];exact Nat.mod_lt _ hpos
          rw [Array.getElem?_toList,Array.getElem?_toList]
          unfold madeCells
          rw [Array.getElem?_map,Array.getElem?_range,if_pos hk]
          have h6:ez.cells.size=te.size:=by rw [hei.zs,← hei.size]
          rw [h6] at h5 ⊢
          simp only [Option.map_some]
          rw [Array.getElem?_eq_getElem (by rw [h6];exact h5),getElem!_pos ez.cells (k % te.size) (by rw [h6];exact h5)]
         have hzl:((te.zero.map cD).set q (D.list [])).length=te.size:=by rw [List.length_set,hei.zero];simp [hei.zs,hei.size]
         have hij:∀ i j,i< n→j< te.size→(madeCells ez.cells (n*te.size)).toList[i*te.size+j]? =ez.cells.toList[j]? :=fun i j hin hjn=>by
          have hk:i*te.size+j< n*te.size:=by
           have:(i+1)*te.size≤n*te.size:=Nat.mul_le_mul_right _ hin
           rw [Nat.add_mul,Nat.one_mul] at this
           omega
          rw [hcell _ hk,show (i*te.size+j) % te.size=j by rw [Nat.mul_comm,Nat.mul_add_mod,Nat.mod_eq_of_lt hjn]]
         have hrow:∀ (i:Nat) (r:List D),(List.replicate n ((te.zero.map cD).set q (D.list [])))[i]? =some r→i< n∧r=(te.zero.map cD).set q (D.list []):=fun i r hi'=>by
          have hin:i< n:=by have:=(List.getElem?_eq_some_iff.1 hi').1;simpa using this
          rw [List.getElem?_replicate,if_pos hin] at hi'
          exact⟨hin,(Option.some.inj hi').symm⟩
         have hins:∀ (i:Nat) (u:Value),(List.replicate n (Value.slice none 0 0))[i]? =some u→i< n∧u= .slice none 0 0:=fun i u hi'=>by
          have hin:i< n:=by have:=(List.getElem?_eq_some_iff.1 hi').1;simpa using this
          rw [List.getElem?_replicate,if_pos hin] at hi'
          exact⟨hin,(Option.some.inj hi').symm⟩
         have hezq:ez.cells.toList[q]? =some (.slice none 0 0):=by
          rw [hei.zero,List.getElem?_map] at hzq
          cases hz:ez.cells.toList[q]? with
          |none=>rw [hz] at hzq;simp at hzq
          |some y=>rw [hz] at hzq;simp at hzq;rw [hzq]
         have hlz:(te.zero.map cD).length=te.size:=by rw [hei.zero];simp [hei.zs,hei.size]
         obtain⟨bs',st',hbs⟩:=Zf4 st hg (w':=w.alloc (.cells (madeCells ez.cells (n*te.size)) e)) ((Below.refl _ w).alloc (Nat.le_refl _) _) (v:= .slice (some ⟨w.heap.size,0,none⟩) n n) (ins:=List.replicate n (.slice none 0 0)) (ys:=(madeCells ez.cells (n*te.size)).toList)
          (T:=e) (n:=te.size) (q:=q) (Te:=Te) (ne:=ne) (xs:=List.replicate n ((te.zero.map cD).set q (.list []))) (pd:=none) (fun b hbb=>by
           obtain⟨z,hz,hzb⟩:∃ z,z∈Value.slice (some ⟨w.heap.size,0,none⟩) n n :: List.replicate n (Value.slice none 0 0)∧Blk1 z b:=by
            obtain⟨z,hz,hzb⟩:=hbb
            exact⟨z,by simpa only [List.toList_toArray] using hz,hzb⟩
           rcases List.mem_cons.1 hz with rfl|hz
           ·obtain rfl:w.heap.size=b:=hzb
            exact⟨Nat.le_refl _,by simp⟩
           ·rw [(List.mem_replicate.1 hz).2] at hzb
            exact hzb.elim) (fun I' hI'=>by
           refine⟨by rw [List.length_replicate];exact hown,⟨hpos,hqn.1,hqn.2⟩,by simp only [insLen,List.length_replicate],fun r hr=>by rw [(List.mem_replicate.1 hr).2];exact hzl,fun i j r dd hi' hjq hj=> ?_,fun i r u hi' hu _=> ?_,fun i u hu=> ?_,fun i u b hu hb1=> ?_,fun i j u u' b hu _ hb1=> ?_⟩
           ·obtain⟨hin,rfl⟩:=hrow i r hi'
            have hjn:j< te.size:=by rw [← hzl];exact(List.getElem?_eq_some_iff.1 hj).1
            rw [List.getElem?_set_ne (Ne.symm hjq),List.getElem?_map,hei.zero,List.getElem?_map] at hj
            rw [hij i j hin hjn]
            cases hz:ez.cells.toList[j]? with
            |none=>rw [hz] at hj;simp at hj
            |some y=>
             rw [hz] at hj
             simp only [Option.map_some,cD,Option.some.injEq] at hj
             subst hj
             exact⟨y,rfl,Den.v y (hei.zf y (List.mem_of_getElem? hz))⟩
           ·obtain⟨hin,rfl⟩:=hins i u hu
            rw [hij i q hin hqn.1,hezq]
           ·obtain⟨hin,rfl⟩:=hins i u hu
            refine⟨[],?_, [],Za6 _ _ _ _,fun r hr=>by simp at hr,fun i j r d hi=>by simp at hi⟩
            simp only [contAt,List.getElem?_replicate,if_pos hin,Option.bind_some]
            rw [List.getElem?_set_self (by rw [hlz];exact hqn.1)]
           ·obtain⟨_,rfl⟩:=hins i u hu
            exact hb1.elim
           ·obtain⟨_,rfl⟩:=hins i u hu
            exact hb1.elim)
         refine Za (.slice (some ⟨w.heap.size,0,none⟩) n n) (w':=w.alloc (.cells (madeCells ez.cells (n*te.size)) e)) (by
           simp only [execOp,ho,el,ec,Sem.run_bind,hr,Result.andThen_ok,Sem.run_pure]) ⟨bs',st',m_mk (Zd _ _ _) rfl hbs rfl,fun p hp=> ?_⟩
         obtain rfl:p=(d,0):=by simpa [AV.hs,S.hs,C.hs] using hp
         exact⟨by simp only [Zd];rfl,by simp only [Zd];exact Nat.le_refl _⟩
        ·rw [f2];trivial
       ·rw [g2];trivial
     ·trivial
    ·trivial
   ·trivial
  ·trivial
 ·trivial
theorem Zoh {T e:Nat} {ty te:Ty} {ti ei:TypeInfo} {tu eu:TypeDesc} {tz ez:Value} (hi:TyIs P T ty ti tu tz) (he:ty.elem=some e) (hei:TyIs P e te ei eu ez) (hpos:0< te.size) (hsm:te.size≤16777216) {x:Value} (hx:x.cells.size=te.size) (w:World):
  (Instr.buildSlice T 1 #[(0,x)]).run P w= .ok (.slice (some ⟨w.heap.size,0,none⟩) 1 1) (w.alloc (.cells x.cells e)):=by
 refine run_buildSlice w T e 1 _ _ ei ez (hi.slice he) hei.info hei.hz (by rw [← hei.size];omega) (by rw [← hei.size];omega) ?_
 rw [← hei.size]
 have h:=Great.fill_whole hpos [x] ((Array.range (1*te.size)).map (ez.cells[· % ez.cells.size]!)) (fun v hv=>by rw [List.mem_singleton.1 hv];exact hx) (by simp)
 have e2:([x].flatMap fun v=>v.cells.toList).toArray=x.cells:=by simp
 rw [e2] at h
 exact h
def mCell:AV→Option (D×Nat×Nat×Nat)
 | .val (.agg cs)=>match cs with
  | [.d d,.m o k (.inn i)]=>some (d,o,k,i)
  |_=>none
 |_=>none
theorem ZmZ {v:AV} {d:D} {o k i:Nat} (h:mCell v=some (d,o,k,i)):v= .val (.agg [.d d,.m o k (.inn i)]):=by
 unfold mCell at h
 split at h
 ·split at h
  ·simp only [Option.some.injEq,Prod.mk.injEq] at h
   obtain⟨rfl,rfl,rfl,rfl⟩:=h
   rfl
  ·simp at h
 ·simp at h
def planBuildM (TB:List (Nat×Ty)) (env:Env) (mem:Mem) (own:Bool) (T:TypeId) (n:Nat) (parts:List (Nat×Operand)) (els:Plan):Plan:=
 match parts with
 | [p]=>match mCell (opd env p.2) with
  |some (d,o,k,i)=>match mem o with
   | .mat T0 n0 q Te ne c _ ki rows pd=>match look TB T with
    |some ty=>match ty.elem with
     |some e=>match look TB e with
      |some te=>bif Nat.beq p.1 0&&(Nat.beq n 1&&(Nat.beq k ki&&(Nat.beq n0 2&&(Nat.beq q 1&&Nat.beq te.size 2)))) then
        (match own with
         |false=> .ret (.val (.one (.m o ki (.one i [d,.list []]))))
         |true=>match rows,pd with
          | [],some (j,ct)=>bif Nat.beq j 0&&(Nat.beq i 0&&Nat.beq e T0) then .put (.val (.one (.m o (c+1) .out))) o (.mat T0 2 1 Te ne (c+1) (c+1) ki [[d,.list ct]] none) else .bad
          |_,_=> .bad) else .bad
      |none=> .bad
     |none=> .bad
    |none=> .bad
   |_=> .bad
  |none=>els
 |_=>els
theorem ZfK {TB:List (Nat×Ty)} (hTB:TBok P TB) (st:St w0 I0 nt env mem bs a w) (hE:∀ t,env' t= .junk∨env' t=env t) (hM:∀ o,mem' o= .gone∨mem' o=mem o) (own:Bool)
  (o:Oper) (T:TypeId) (n:Nat) (parts:Array (Nat×Operand)) (ho:o.op= .buildSlice T n parts) {els:Plan} (hels:SoundPlan P w0 I0 nt env mem a w o els):SoundPlan P w0 I0 nt env mem a w o (planBuildM TB env' mem' own T n parts.toList els):=by
 unfold planBuildM
 split
 ·rename_i p hp
  have hparts:parts=#[p]:=Array.toList_inj.1 (by rw [hp])
  subst hparts
  split
  ·rename_i d ob k i hc
   have hx:=ZmZ hc
   obtain⟨h1,h2⟩:=Zb st hE p.2
   rw [hx] at h1 h2
   split
   ·rename_i T0 n0 q Te ne c ko ki rows pd hm
    have hm':=ZbS hM hm
    split
    ·rename_i ty hty
     obtain⟨ti,tu,tz,hi⟩:=Zj (hTB T ty (Ze hty))
     split
     ·rename_i e he
      split
      ·rename_i te hte
       obtain⟨ei,eu,ez,hei⟩:=Zj (hTB e te (Ze hte))
       cases hcc:(Nat.beq p.1 0&&(Nat.beq n 1&&(Nat.beq k ki&&(Nat.beq n0 2&&(Nat.beq q 1&&Nat.beq te.size 2))))) with
       |false=>trivial
       |true=>
        simp only [Bool.and_eq_true] at hcc
        have hp0:=Nat.eq_of_beq_eq_true hcc.1
        obtain rfl:=Nat.eq_of_beq_eq_true hcc.2.1
        obtain rfl:=Nat.eq_of_beq_eq_true hcc.2.2.1
        obtain rfl:=Nat.eq_of_beq_eq_true hcc.2.2.2.1
        obtain rfl:=Nat.eq_of_beq_eq_true hcc.2.2.2.2.1
        have hte2:=Nat.eq_of_beq_eq_true hcc.2.2.2.2.2
        simp only [cond_true]
        obtain⟨l,el,hll,hlc⟩:=h1
        obtain⟨y,u,rfl⟩:∃ y u,l= [y,u]:=by
         match l,hll with
         | [y,u],_=>exact⟨y,u,rfl⟩
        have hy:Den w (Stay w0 I0 mem bs w) y d:=hlc 0 _ y rfl rfl
        have hu:DenC w (Stay w0 I0 mem bs w) bs mem u (.m ob k (.inn i)):=hlc 1 _ u rfl rfl
        obtain⟨v,ins,ys,hb,M,hd⟩:=Zb3 st hm' hu rfl
        have hd:ins[i]? =some u:=hd
        have hrun:(execOp a.eval o).run P w= .ok (.value (.slice (some ⟨w.heap.size,0,none⟩) 1 1)) (w.alloc (.cells #[y,u] e)):=by
         have:=Zoh (P:=P) hi he hei (by omega) (by omega) (x:=a.eval p.2) (by rw [el,hte2];rfl) w
         have hpe:(#[p].map fun (i,x)=>(i,a.eval x))=#[(0,a.eval p.2)]:=by simp [hp0]
         simp only [execOp,ho,Sem.run_bind,hpe,this,Result.andThen_ok]
         rw [el];rfl
        have hbl:Below w.heap.size w (w.alloc (.cells #[y,u] e)):=(Below.refl _ w).alloc (Nat.le_refl _) _
        have hrow:=Row.alloc_new w e [y,u]
        have hok:okh mem (ob,k):=h2 (ob,k) (by simp [AV.hs,S.hs,C.hs])
        cases own with
        |false=>
         obtain⟨K,st'⟩:=st.grow hbl
         refine Za _ hrun ⟨bs,st',m_mk hm' rfl hb ⟨w.heap.size,1,u,Zbs hbl st _ (.inr ⟨Nat.le_refl _,by simp⟩),rfl,by omega,hd,rfl,?_,fun j dd hj hdd=> ?_⟩,fun p' hp'=> ?_⟩
         ·simp
         ·match j,hj,hdd with
          |0,_,hdd=>
           obtain rfl:d=dd:=by simpa using hdd
           exact⟨y,by simp,Den.mono K.stay hy⟩
          |j+2,_,hdd=>simp at hdd
         ·obtain rfl:p'=(ob,k):=by simpa [AV.hs,S.hs,C.hs] using hp'
          exact hok
        |true=>
         dsimp only
         split
         ·rename_i j ct
          cases hcd:(Nat.beq j 0&&(Nat.beq i 0&&Nat.beq e T0)) with
          |false=>trivial
          |true=>
           simp only [Bool.and_eq_true] at hcd
           obtain rfl:=Nat.eq_of_beq_eq_true hcd.1
           obtain rfl:=Nat.eq_of_beq_eq_true hcd.2.1
           obtain rfl:=Nat.eq_of_beq_eq_true hcd.2.2
           simp only [cond_true]
           have hver:ko≤c∧k≤c:=by
            have:=st.obs ob
            rw [hm'] at this
            exact this.1
           have hys:ys= []:=List.eq_nil_of_length_eq_zero (by have:=M.own.1;simpa using this)
           have hown':ownsK w0.K (w.alloc (.cells #[y,u] e)) e 2 (.slice (some ⟨w.heap.size,0,none⟩) 1 1) (([]:List (List D)).length+1) (ys++ [y,u]):=by
            rw [hys]
            exact ZP (World.ownsRow_lit w _ 1 (Nat.zero_le _) (by have:=ZaB;omega) rfl) fun k hk=>by obtain rfl:=Option.some.inj hk;exact st.newK (Nat.le_refl _)
           obtain⟨bs',st',hb',hok',_⟩:=ZcQ st hm' hb (st.bel hbl) (fun k' hk' _=>hbl.block k' hk') (c':=c+1) (ko':=c+1) (ki':=k) (xs':= [[d,.list ct]]) (pd':=none) (v':= .slice (some ⟨w.heap.size,0,none⟩) 1 1) (ins':=ins) (ys':=ys++ [y,u])
            ⟨Nat.le_succ _,Nat.le_refl _,by omega⟩ (.inr (by omega)) (.inl ⟨rfl,fun _ _ h=>h⟩) (fun b hbb=>by
             obtain⟨z,hz,hzb⟩:∃ z,z∈Value.slice (some ⟨w.heap.size,0,none⟩) 1 1 :: ins∧Blk1 z b:=by simpa [Blk] using hbb
             rcases List.mem_cons.1 hz with rfl|hz
             ·obtain rfl:w.heap.size=b:=hzb
              exact .inr ⟨Nat.le_refl _,by simp⟩
             ·obtain⟨p,hp⟩:=List.getElem?_of_mem hz
              exact .inl (ZaO hp hzb)) (fun I' hI'=>by
             have:=Zf2 (I':=I') (ds:= [d,.list ct]) M hd rfl hown' ((World.grownBy_alloc w _ _)) (.inr rfl) (l:= [y,u]) rfl (fun j dd hj hdd=>by
              match j,hj,hdd with
              |0,_,hdd=>
               obtain rfl:d=dd:=by simpa using hdd
               exact⟨y,rfl,hy⟩
              |j+2,_,hdd=>simp at hdd) hI'
             simpa using this)
           refine Za _ hrun ⟨bs',st',m_mk (Zd _ _ _) rfl hb' rfl,fun p' hp'=> ?_⟩
           obtain rfl:p'=(ob,c+1):=by simpa [AV.hs,S.hs,C.hs] using hp'
           exact⟨by simp only [Zd];rfl,by simp only [Zd];exact Nat.le_refl _⟩
         ·trivial
      ·trivial
     ·trivial
    ·trivial
   ·trivial
  ·exact hels
 ·exact hels
end
end Go.Proofs.YtjlhknppkodilaaGreatDoor.eng
