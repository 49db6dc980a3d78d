/- The engine at this program: how a function's walk begins, goes over a call of package rat, and ends. -/
import Derived.Test.YtncoimmjjfmhdaaDoorEngS
namespace Go.Proofs.YtncoimmjjfmhdaaDoor.eng
open Go.RowKit num mem seg q held ratA ratB ratC ratD ratE vars ratF
theorem Zt {f : FuncId} {fn : Func} {c : Code} {nt : Nat} (hf : Tryd.prog.funcs[f]? = some fn) (hb : fn.body = some c) (hn : (fn.name == "runtime.NumGoroutine") = false) (hnt : fn.ntmps = nt) {rs : List ResultVar} (hrs : fn.results = ⟨rs⟩)
  (hc:codeOk c=true) {args:List AV} {r:AV} (hargs:freeAVs args=true) (hlen:Nat.ble args.length nt=true)
  (h:sp (prmOf Tryd.prog nt) c (RetIs (prmOf Tryd.prog nt) rs r) (envArgs 0 args) noMem):Spec Tryd.prog Tab f args r:=
 Zdl (p:=prmOf Tryd.prog nt) hf hb hn hnt rfl rfl hrs Zho (fun _ _ h hb=>h.below hb (Nat.le_refl _)) mixed hc hargs hlen h
abbrev Ask (f:FuncId) (args:List AV) (K:AV→Prop):Prop:=∃ v,CallR Tryd.prog Tab f args v∧K v
theorem use {f:FuncId} {args:List AV} {r:AV} {K:AV→Prop} (h:Spec Tryd.prog Tab f args r) (hr:r.hs= []) (k:K r):Ask f args K:=⟨r,ZjX hr h,k⟩
theorem ZlF {f : FuncId} {fn : Func} {c : Code} {nt : Nat} (hf : Tryd.prog.funcs[f]? = some fn) (hb : fn.body = some c) (hn : (fn.name == "runtime.NumGoroutine") = false) (hnt : fn.ntmps = nt) {rs : List ResultVar} (hrs : fn.results = ⟨rs⟩)
  (hc:codeOk c=true) {args:List AV} {T n:Nat} {xs:List (List D)} (hargs:freeAVs args=true) (hlen:Nat.ble args.length nt=true)
  (h:sp (prmOf Tryd.prog nt) c (RetNew rs T n xs) (envArgs 0 args) noMem):SpecR Tryd.prog Tab f args T n xs:=
 Zjd (p:=prmOf Tryd.prog nt) hf hb hn hnt rfl rfl hrs Zho (fun _ _ h hb=>h.below hb (Nat.le_refl _)) mixed hc hargs hlen h
theorem ZlE (own : List Nat) {f : FuncId} {fn : Func} {c : Code} {nt : Nat} (hf : Tryd.prog.funcs[f]? = some fn) (hb : fn.body = some c) (hn : (fn.name == "runtime.NumGoroutine") = false) (hnt : fn.ntmps = nt) {rs : List ResultVar} (hrs : fn.results = ⟨rs⟩)
  (hc:codeOk c=true) {args:List AV} {r:AV} (hargs:freeAVs args=true) (hlen:Nat.ble args.length nt=true)
  (h:sp (prmOwn Tryd.prog nt own) c (RetIs (prmOwn Tryd.prog nt own) rs r) (envArgs 0 args) noMem):Spec Tryd.prog Tab f args r:=
 Zdl (p:=prmOwn Tryd.prog nt own) hf hb hn hnt rfl rfl hrs Zho (fun _ _ h hb=>h.below hb (Nat.le_refl _)) mixed hc hargs hlen h
theorem fn_T (own : List Nat) {f : FuncId} {fn : Func} {c : Code} {nt : Nat} (hf : Tryd.prog.funcs[f]? = some fn) (hb : fn.body = some c) (hn : (fn.name == "runtime.NumGoroutine") = false) (hnt : fn.ntmps = nt) {rs : List ResultVar} (hrs : fn.results = ⟨rs⟩)
  (hc:codeOk c=true) {args:List AV} {T n:Nat} {xs:List (List D)} {T' n':Nat} {ys:List (List D)} (hargs:argsT args=true) (hlen:Nat.ble args.length nt=true)
  (h:sp (prmOwn Tryd.prog nt own) c (RetNew rs T' n' ys) (envArgs 0 args) (memT T n xs)):SpecT Tryd.prog Tab f args T n xs T' n' ys:=
 Zlf (p:=prmOwn Tryd.prog nt own) hf hb hn hnt rfl rfl hrs Zho mixed hc hargs hlen h
theorem fn_S (i : Nat) (own : List Nat) {f : FuncId} {fn : Func} {c : Code} {nt : Nat} (hf : Tryd.prog.funcs[f]? = some fn) (hb : fn.body = some c) (hn : (fn.name == "runtime.NumGoroutine") = false) (hnt : fn.ntmps = nt) {rs : List ResultVar} (hrs : fn.results = ⟨rs⟩)
  (hc:codeOk c=true) {args:List AV} {T n:Nat} {xs ys:List (List D)} {r:AV} (hargs:argsT args=true) (hlen:Nat.ble args.length nt=true) (hai:args[i]? =some (.val (.one (.row 1000 0))))
  (h:sp (prmL Tryd.prog nt i own) c (RetS (prmL Tryd.prog nt i own) rs r i T n ys) (envArgs 0 args) (memT T n xs)):SpecS Tryd.prog Tab f args T n xs r ys:=
 Zlg (p:=prmL Tryd.prog nt i own) hf hb hn hnt rfl rfl hrs Zho mixed hc hargs hlen hai h
theorem RV.z1 (x:RV):qs x.q≤x.z+1:=by have:=x.qs_le;omega
section
variable {x y : RV} {K : AV → Prop}
theorem Zin (hx:x.z≤4398046511104) (hy:y.z≤4398046511104) (k:∀ q,q=x.q+y.q→(cn q).z≤x.z+y.z+3→K (rat (cn q))):Ask 52 [rat x,rat y] K:=
 use (ZhN x y hx hy) rfl (k _ rfl (by have:=ZcY x.q y.q;have:=x.z1;have:=y.z1;rw [cn_z];omega))
theorem Zeq (hx:x.z≤4398046511104) (hy:y.z≤4398046511104) (k:∀ q,q=x.q - y.q→(cn q).z≤x.z+y.z+3→K (rat (cn q))):Ask 82 [rat x,rat y] K:=
 use (ZhJ x y hx hy) rfl (k _ rfl (by have:=ZbK x.q y.q;have:=x.z1;have:=y.z1;rw [cn_z];omega))
theorem Zfi (hx:x.z≤4398046511104) (hy:y.z≤4398046511104) (k:∀ q,q=x.q*y.q→(cn q).z≤x.z+y.z+2→K (rat (cn q))):Ask 54 [rat x,rat y] K:=
 use (ZhL x y hx hy) rfl (k _ rfl (by have:=Za3 x.q y.q;have:=x.z1;have:=y.z1;rw [cn_z];omega))
theorem k_of (n:Int) (h1:-9223372036854775808≤n) (h2:n≤9223372036854775807) (k:∀ q,q=(n:Rat)→(cn q).z≤8→K (rat (cn q))):Ask 50 [int n] K:=
 use (Zjp n h1 h2) rfl (k _ rfl (by have:=ZcX h1 h2;rw [cn_z];omega))
theorem Zkj (p q:Rat):cmpQ p q≤0↔p≤q:=by
 unfold cmpQ
 by_cases h1:p< q
 ·rw [if_pos h1];exact⟨fun _=>Rat.le_of_lt h1,fun _=>by omega⟩
 ·rw [if_neg h1]
  by_cases h2:q< p
  ·rw [if_pos h2];exact⟨fun h=>by omega,fun h=>absurd h2 (Rat.not_lt.2 h)⟩
  ·rw [if_neg h2];exact⟨fun _=>Rat.not_lt.1 h2,fun _=>Int.le_refl _⟩
theorem Zkk (p q:Rat):0≤cmpQ p q↔q≤p:=by
 unfold cmpQ
 by_cases h1:p< q
 ·rw [if_pos h1];exact⟨fun h=>by omega,fun h=>absurd h1 (Rat.not_lt.2 h)⟩
 ·rw [if_neg h1]
  by_cases h2:q< p
  ·rw [if_pos h2];exact⟨fun _=>Rat.le_of_lt h2,fun _=>by omega⟩
  ·rw [if_neg h2];exact⟨fun _=>Rat.not_lt.1 h1,fun _=>Int.le_refl _⟩
theorem Zk2 (p q:Rat):0< cmpQ p q↔q< p:=by
 have:=Zkj p q
 rw [← Rat.not_le,← this];omega
theorem Zk3 (p q:Rat):cmpQ p q< 0↔p< q:=by
 have:=Zkk p q
 rw [← Rat.not_le,← this];omega
theorem Zfk (hx:x.z≤4398046511104) (hy:y.z≤4398046511104) (k:∀ n,n=cmpQ x.q y.q→K (int n)):Ask 58 [rat x,rat y] K:=
 use (ZhM x y hx hy) rfl (k _ rfl)
theorem Zf3 (hx:x.z≤4398046511104) (k:∀ n,n=sgnQ x.q→K (int n)):Ask 94 [rat x] K:=
 use (ZgG x hx) rfl (k _ rfl)
theorem Ze1 (q:Rat):q.num< 0↔q< 0:=by
 rw [← Rat.not_le,← Rat.num_nonneg];omega
theorem Zdq (q:Rat):q.num=0↔q=0:=Rat.num_eq_zero
theorem Zjg (q:Rat):0< sgnQ q↔0< q:=by
 unfold sgnQ
 by_cases h1:q.num=0
 ·rw [if_pos h1];have:=(Zdq _).1 h1;subst this;exact⟨fun h=>by omega,fun h=>absurd h (Rat.lt_irrefl)⟩
 ·rw [if_neg h1]
  by_cases h2:q.num< 0
  ·rw [if_pos h2];exact⟨fun h=>by omega,fun h=>absurd h (Rat.not_lt.2 (Rat.le_of_lt ((Ze1 _).1 h2)))⟩
  ·rw [if_neg h2]
   refine⟨fun _=>Rat.not_le.1 fun h=> ?_,fun _=>by omega⟩
   rcases Rat.le_iff_lt_or_eq.1 h with h|h
   ·exact h2 ((Ze1 _).2 h)
   ·exact h1 ((Zdq _).2 h)
abbrev AskB (op:BinOp) (T:TypeId) (ox oy:Operand) (p q:Value) (K:AV→Prop):Prop:=∃ r,(∃ v,r=one v∧flat v=true∧∀ w,(do eqGuard op T ox oy p q;binOp op T p q:Sem Value).run Tryd.prog w= .ok v w)∧K r
theorem useB {op:BinOp} {T:TypeId} {ox oy:Operand} {p q:Value} {K:AV→Prop} {b:Bool} (h:∀ w,(do eqGuard op T ox oy p q;binOp op T p q:Sem Value).run Tryd.prog w= .ok (.bool b) w) (k:K (bool b)):AskB op T ox oy p q K:=
 ⟨_,⟨.bool b,rfl,rfl,h⟩,k⟩
theorem Zfj {ox oy:Operand} {x:RV} {y:RV} (H:x=y) (k:K (bool true)):AskB .eql 29 ox oy (.agg ⟨[.bool x.s,.string x.a,.string x.d]⟩) (.agg ⟨[.bool y.s,.string y.a,.string y.d]⟩) K:=useB (fun w=>by have:=ZkQ ox oy x y w;rw [decide_eq_true H] at this;exact this) k
theorem Zfh {ox oy:Operand} {x:RV} {y:RV} {x':RV} {y':RV} (H:x=x'∧y=y') (k:K (bool false)):AskB .neq 31 ox oy (.agg ⟨[.bool x.s,.string x.a,.string x.d,.bool y.s,.string y.a,.string y.d]⟩) (.agg ⟨[.bool x'.s,.string x'.a,.string x'.d,.bool y'.s,.string y'.a,.string y'.d]⟩) K:=useB (fun w=>by have:=ZkF ox oy x y x' y' w;rw [decide_eq_true H] at this;exact this) k
end
theorem ZdI {P:Program} {G:World→Prop} {f:FuncId} {args:List AV} {vals:List Value} {r:AV} {x:Value} (h:Spec P G f args r) (hr:pv r=some x) {w:World} (hG:G w) (hrel:Rel2 (fun y v=>DenAV w (fun _=>False) noBs noMem y v) vals args):
  Calls P f vals.toArray w fun e w'=>e= .returned x∧Below w.heap.size w w':=
 Calls.mono (h.2 w (fun _=>False) vals hG (fun b hb=>hb.elim) hrel) fun e w' ⟨y,he,hd,hb⟩=>⟨by rw [he,(Zd8 hr).1 hd],hb⟩
theorem ZcI {P:Program} {G:World→Prop} {f:FuncId} {args:List AV} {vals:List Value} {r:AV} {x:Value} (h:Spec P G f args r) (hr:pv r=some x) {w:World} {I:Nat→Prop} (hG:G w) (hI:∀ b,I b→b< w.heap.size) (hrel:Rel2 (fun y v=>DenAV w I noBs noMem y v) vals args):
  Calls P f vals.toArray w fun e w'=>e= .returned x∧Below w.heap.size w w':=
 Calls.mono (h.2 w I vals hG hI hrel) fun e w' ⟨y,he,hd,hb⟩=>⟨by rw [he,(Zd8 hr).1 hd],hb⟩
theorem ZhQ {w:World} {I:Nat→Prop} {bs:Bs} {mem:Mem}:∀ {vs:List AV} {l:List Value},pvl vs=some l→Rel2 (fun y v=>DenAV w I bs mem y v) l vs
 | [],l,h=>by simp only [pvl,Option.some.injEq] at h;subst h;exact Rel2.nil
 |v :: vs,l,h=>by
  simp only [pvl] at h
  split at h
  ·rename_i x l' hx hl
   obtain rfl:=(Option.some.inj h).symm
   exact(ZhQ hl).cons ((Zd8 hx).2 rfl)
  ·simp at h
end Go.Proofs.YtncoimmjjfmhdaaDoor.eng
