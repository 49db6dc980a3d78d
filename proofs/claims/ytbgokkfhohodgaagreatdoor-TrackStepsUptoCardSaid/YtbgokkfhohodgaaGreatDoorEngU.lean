/- The engine at this program: how a function's walk begins, goes over a call of package rat, and ends. -/
import Derived.Test.YtbgokkfhohodgaaGreatDoorEngS
namespace Go.Proofs.YtbgokkfhohodgaaGreatDoor.eng
open Go.RowKit num mem seg q held ratA ratB ratC ratD ratE vars ratF
theorem Ze {f : FuncId} {fn : Func} {c : Code} {nt : Nat} (hf : Tryz.prog.funcs[f]? = some fn) (hb : fn.body = some c) (hn : (fn.name == "runtime.NumGoroutine") = false) (hnt : fn.ntmps = nt) {rs : List ResultVar} (hrs : fn.results = ⟨rs⟩)
  (hc:codeOk c=true) {args:List AV} {r:AV} (hargs:freeAVs args=true) (hlen:Nat.ble args.length nt=true)
  (h:sp (prmOf Tryz.prog nt) c (RetIs (prmOf Tryz.prog nt) rs r) (envArgs 0 args) noMem):Spec Tryz.prog Tab f args r:=
 Ze7 (p:=prmOf Tryz.prog nt) hf hb hn hnt rfl rfl hrs Zlf (fun _ _ h hb=>h.below hb (Nat.le_refl _)) mixed hc hargs hlen h
abbrev Ask (f:FuncId) (args:List AV) (K:AV→Prop):Prop:=∃ v,CallR Tryz.prog Tab f args v∧K v
theorem use {f:FuncId} {args:List AV} {r:AV} {K:AV→Prop} (h:Spec Tryz.prog Tab f args r) (hr:r.hs= []) (k:K r):Ask f args K:=⟨r,ZkF hr h,k⟩
theorem RV.z1 (x:RV):qs x.q≤x.z+1:=by have:=x.qs_le;omega
section
variable {x y : RV} {K : AV → Prop}
theorem Zmt (hx:x.z≤4398046511104) (hy:y.z≤4398046511104) (k:∀ q,q=x.q+y.q→(cn q).z≤x.z+y.z+3→K (rat (cn q))):Ask 33 [rat x,rat y] K:=
 use (Zif x y hx hy) rfl (k _ rfl (by have:=Zgc x.q y.q;have:=x.z1;have:=y.z1;rw [cn_z];omega))
theorem ZfA (hx:x.z≤4398046511104) (hy:y.z≤4398046511104) (k:∀ q,q=x.q - y.q→(cn q).z≤x.z+y.z+3→K (rat (cn q))):Ask 41 [rat x,rat y] K:=
 use (Zia x y hx hy) rfl (k _ rfl (by have:=Zb6 x.q y.q;have:=x.z1;have:=y.z1;rw [cn_z];omega))
theorem Zks (hx:x.z≤4398046511104) (hy:y.z≤4398046511104) (k:∀ q,q=x.q*y.q→(cn q).z≤x.z+y.z+2→K (rat (cn q))):Ask 40 [rat x,rat y] K:=
 use (Zic x y hx hy) rfl (k _ rfl (by have:=Zdn x.q y.q;have:=x.z1;have:=y.z1;rw [cn_z];omega))
theorem k_of (n:Int) (h1:-9223372036854775808≤n) (h2:n≤9223372036854775807) (k:∀ q,q=(n:Rat)→(cn q).z≤8→K (rat (cn q))):Ask 74 [int n] K:=
 use (Zj0 n h1 h2) rfl (k _ rfl (by have:=Zeu h1 h2;rw [cn_z];omega))
theorem ZmM (p q:Rat):cmpQ p q≤0↔p≤q:=by
 unfold cmpQ
 by_cases h1:p< q
 ·rw [if_pos h1];exact⟨fun _=>Rat.le_of_lt h1,fun _=>by omega⟩
 ·rw [if_neg h1]
  by_cases h2:q< p
  ·rw [if_pos h2];exact⟨fun h=>by omega,fun h=>absurd h2 (Rat.not_lt.2 h)⟩
  ·rw [if_neg h2];exact⟨fun _=>Rat.not_lt.1 h2,fun _=>Int.le_refl _⟩
theorem Zk7 (p q:Rat):0≤cmpQ p q↔q≤p:=by
 unfold cmpQ
 by_cases h1:p< q
 ·rw [if_pos h1];exact⟨fun h=>by omega,fun h=>absurd h1 (Rat.not_lt.2 h)⟩
 ·rw [if_neg h1]
  by_cases h2:q< p
  ·rw [if_pos h2];exact⟨fun _=>Rat.le_of_lt h2,fun _=>by omega⟩
  ·rw [if_neg h2];exact⟨fun _=>Rat.not_lt.1 h1,fun _=>Int.le_refl _⟩
theorem ZlG (p q:Rat):0< cmpQ p q↔q< p:=by
 have:=ZmM p q
 rw [← Rat.not_le,← this];omega
theorem ZlH (p q:Rat):cmpQ p q< 0↔p< q:=by
 have:=Zk7 p q
 rw [← Rat.not_le,← this];omega
theorem Zkv (hx:x.z≤4398046511104) (hy:y.z≤4398046511104) (k:∀ n,n=cmpQ x.q y.q→K (int n)):Ask 21 [rat x,rat y] K:=
 use (Zie x y hx hy) rfl (k _ rfl)
theorem ZeL (hx:x.z≤4398046511104) (k:∀ n,n=sgnQ x.q→K (int n)):Ask 71 [rat x] K:=
 use (ZgX x hx) rfl (k _ rfl)
theorem Zmr (hx:x.z≤4398046511104) (k:∀ b,b=decide x.good→K (bool b)):Ask 70 [rat x] K:=
 use (ZgY x hx) rfl (k _ rfl)
theorem Zm9 (hx:x.z≤4398046511104) (hy:y.z≤4398046511104) (h0:y.q≠0) (k:∀ q,q=x.q / y.q→(cn q).z≤x.z+y.z+3→K (two (rat (cn q)) (int 0))):Ask 109 [rat x,rat y] K:=
 use (by have:=Zid x y hx hy;simp only [quotR,quotE,if_neg h0] at this;exact this) rfl (k _ rfl (by have:=Zih x.q y.q;have:=x.z1;have:=y.z1;rw [cn_z];omega))
theorem Zh0 (q:Rat):q.num< 0↔q< 0:=by
 rw [← Rat.not_le,← Rat.num_nonneg];omega
theorem ZdL (q:Rat):q.num=0↔q=0:=Rat.num_eq_zero
theorem ZjN (q:Rat):0< sgnQ q↔0< q:=by
 unfold sgnQ
 by_cases h1:q.num=0
 ·rw [if_pos h1];have:=(ZdL _).1 h1;subst this;exact⟨fun h=>by omega,fun h=>absurd h (Rat.lt_irrefl)⟩
 ·rw [if_neg h1]
  by_cases h2:q.num< 0
  ·rw [if_pos h2];exact⟨fun h=>by omega,fun h=>absurd h (Rat.not_lt.2 (Rat.le_of_lt ((Zh0 _).1 h2)))⟩
  ·rw [if_neg h2]
   refine⟨fun _=>Rat.not_le.1 fun h=> ?_,fun _=>by omega⟩
   rcases Rat.le_iff_lt_or_eq.1 h with h|h
   ·exact h2 ((Zh0 _).2 h)
   ·exact h1 ((ZdL _).2 h)
abbrev AskB (op:BinOp) (T:TypeId) (ox oy:Operand) (p q:Value) (K:AV→Prop):Prop:=∃ r,(∃ v,r=one v∧flat v=true∧∀ w,(do eqGuard op T ox oy p q;binOp op T p q:Sem Value).run Tryz.prog w= .ok v w)∧K r
theorem useB {op:BinOp} {T:TypeId} {ox oy:Operand} {p q:Value} {K:AV→Prop} {b:Bool} (h:∀ w,(do eqGuard op T ox oy p q;binOp op T p q:Sem Value).run Tryz.prog w= .ok (.bool b) w) (k:K (bool b)):AskB op T ox oy p q K:=
 ⟨_,⟨.bool b,rfl,rfl,h⟩,k⟩
theorem ZfB {ox oy:Operand} {x:RV} {y:RV} (H:x=y) (k:K (bool false)):AskB .neq 23 ox oy (.agg ⟨[.bool x.s,.string x.a,.string x.d]⟩) (.agg ⟨[.bool y.s,.string y.a,.string y.d]⟩) K:=useB (fun w=>by have:=Ziv ox oy x y w;rw [decide_eq_true H] at this;exact this) k
theorem ZcL {ox oy:Operand} {x:RV} {y:RV} (k1:x=y→K (bool false)) (k0:¬ (x=y)→K (bool true)):AskB .neq 23 ox oy (.agg ⟨[.bool x.s,.string x.a,.string x.d]⟩) (.agg ⟨[.bool y.s,.string y.a,.string y.d]⟩) K:=by
 by_cases H:x=y
 ·exact ZfB H (k1 H)
 ·exact useB (fun w=>by have:=Ziv ox oy x y w;rw [decide_eq_false H] at this;exact this) (k0 H)
theorem Zgs (ox oy:Operand) (b c:Bool) (w:World):(do eqGuard .eql 4 ox oy (.bool b) (.bool c);binOp .eql 4 (.bool b) (.bool c):Sem Value).run Tryz.prog w= .ok (.bool (decide (b=c))) w:=by
 have:(do eqGuard .eql 4 ox oy (.bool b) (.bool c);binOp .eql 4 (.bool b) (.bool c):Sem Value).run Tryz.prog w= .ok (.bool (b==c)) w:=by simp [go_sem]
 rw [this];cases b<;>cases c<;>rfl
theorem Zka (ox oy:Operand) (b c:Bool) (w:World):(do eqGuard .neq 4 ox oy (.bool b) (.bool c);binOp .neq 4 (.bool b) (.bool c):Sem Value).run Tryz.prog w= .ok (.bool (!decide (b=c))) w:=by
 have:(do eqGuard .neq 4 ox oy (.bool b) (.bool c);binOp .neq 4 (.bool b) (.bool c):Sem Value).run Tryz.prog w= .ok (.bool (!(b==c))) w:=by simp [go_sem]
 rw [this];cases b<;>cases c<;>rfl
theorem ZeM {ox oy:Operand} {b c:Bool} (H:b=c) (k:K (bool true)):AskB .eql 4 ox oy (.bool b) (.bool c) K:=useB (fun w=>by have:=Zgs ox oy b c w;rw [decide_eq_true H] at this;exact this) k
theorem ZeN {ox oy:Operand} {b c:Bool} (k1:b=c→K (bool true)) (k0:¬ b=c→K (bool false)):AskB .eql 4 ox oy (.bool b) (.bool c) K:=by
 by_cases H:b=c
 ·exact ZeM H (k1 H)
 ·exact useB (fun w=>by have:=Zgs ox oy b c w;rw [decide_eq_false H] at this;exact this) (k0 H)
theorem Zds {ox oy:Operand} {b c:Bool} (k:∀ d,d=(!decide (b=c))→K (bool d)):AskB .neq 4 ox oy (.bool b) (.bool c) K:=useB (fun w=>Zka ox oy b c w) (k _ rfl)
end
theorem Zc2 {P:Program} {G:World→Prop} {f:FuncId} {args:List AV} {vals:List Value} {r:AV} {x:Value} (h:Spec P G f args r) (hr:pv r=some x) {w:World} {I:Nat→Prop} (hG:G w) (hI:∀ b,I b→b< w.heap.size) (hrel:Rel2 (fun y v=>DenAV w I noBs noMem y v) vals args):
  Calls P f vals.toArray w fun e w'=>e= .returned x∧Below w.heap.size w w':=
 Calls.mono (h.2 w I vals hG hI hrel) fun e w' ⟨y,he,hd,hb⟩=>⟨by rw [he,(Zgf hr).1 hd],hb⟩
theorem Zii {w:World} {I:Nat→Prop} {bs:Bs} {mem:Mem}:∀ {vs:List AV} {l:List Value},pvl vs=some l→Rel2 (fun y v=>DenAV w I bs mem y v) l vs
 | [],l,h=>by simp only [pvl,Option.some.injEq] at h;subst h;exact Rel2.nil
 |v :: vs,l,h=>by
  simp only [pvl] at h
  split at h
  ·rename_i x l' hx hl
   obtain rfl:=(Option.some.inj h).symm
   exact(Zii hl).cons ((Zgf hx).2 rfl)
  ·simp at h
end Go.Proofs.YtbgokkfhohodgaaGreatDoor.eng
