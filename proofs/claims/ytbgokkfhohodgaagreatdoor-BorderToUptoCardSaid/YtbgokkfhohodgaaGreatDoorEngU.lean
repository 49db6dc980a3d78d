/- The engine at this program: how a function's walk begins, goes over a call of package rat, and ends. -/
import Derived.Test.YtbgokkfhohodgaaGreatDoorEngS
namespace Go.Proofs.YtbgokkfhohodgaaGreatDoor.eng
open Go.RowKit num mem seg q held ratA ratB ratC ratD ratE vars ratF
theorem Zy {f : FuncId} {fn : Func} {c : Code} {nt : Nat} (hf : Tryz.prog.funcs[f]? = some fn) (hb : fn.body = some c) (hn : (fn.name == "runtime.NumGoroutine") = false) (hnt : fn.ntmps = nt) {rs : List ResultVar} (hrs : fn.results = ⟨rs⟩)
  (hc:codeOk c=true) {args:List AV} {r:AV} (hargs:freeAVs args=true) (hlen:Nat.ble args.length nt=true)
  (h:sp (prmOf Tryz.prog nt) c (RetIs (prmOf Tryz.prog nt) rs r) (envArgs 0 args) noMem):Spec Tryz.prog Tab f args r:=
 ZdB (p:=prmOf Tryz.prog nt) hf hb hn hnt rfl rfl hrs ZkR (fun _ _ h hb=>h.below hb (Nat.le_refl _)) mixed hc hargs hlen h
abbrev Ask (f:FuncId) (args:List AV) (K:AV→Prop):Prop:=∃ v,CallR Tryz.prog Tab f args v∧K v
theorem use {f:FuncId} {args:List AV} {r:AV} {K:AV→Prop} (h:Spec Tryz.prog Tab f args r) (hr:r.hs= []) (k:K r):Ask f args K:=⟨r,Zj0 hr h,k⟩
theorem Zlv (own : List Nat) {f : FuncId} {fn : Func} {c : Code} {nt : Nat} (hf : Tryz.prog.funcs[f]? = some fn) (hb : fn.body = some c) (hn : (fn.name == "runtime.NumGoroutine") = false) (hnt : fn.ntmps = nt) {rs : List ResultVar} (hrs : fn.results = ⟨rs⟩)
  (hc:codeOk c=true) {args:List AV} {r:AV} (hargs:freeAVs args=true) (hlen:Nat.ble args.length nt=true)
  (h:sp (prmOwn Tryz.prog nt own) c (RetIs (prmOwn Tryz.prog nt own) rs r) (envArgs 0 args) noMem):Spec Tryz.prog Tab f args r:=
 ZdB (p:=prmOwn Tryz.prog nt own) hf hb hn hnt rfl rfl hrs ZkR (fun _ _ h hb=>h.below hb (Nat.le_refl _)) mixed hc hargs hlen h
theorem RV.z1 (x:RV):qs x.q≤x.z+1:=by have:=x.qs_le;omega
section
variable {x y : RV} {K : AV → Prop}
theorem Zlp (hx:x.z≤4398046511104) (hy:y.z≤4398046511104) (k:∀ q,q=x.q+y.q→(cn q).z≤x.z+y.z+3→K (rat (cn q))):Ask 33 [rat x,rat y] K:=
 use (Zh0 x y hx hy) rfl (k _ rfl (by have:=ZfZ x.q y.q;have:=x.z1;have:=y.z1;rw [cn_z];omega))
theorem ZlN (hx:x.z≤4398046511104) (hy:y.z≤4398046511104) (k:∀ q,q=x.q - y.q→(cn q).z≤x.z+y.z+3→K (rat (cn q))):Ask 41 [rat x,rat y] K:=
 use (ZhT x y hx hy) rfl (k _ rfl (by have:=Zk0 x.q y.q;have:=x.z1;have:=y.z1;rw [cn_z];omega))
theorem Ziz (hx:x.z≤4398046511104) (hy:y.z≤4398046511104) (k:∀ q,q=x.q*y.q→(cn q).z≤x.z+y.z+2→K (rat (cn q))):Ask 40 [rat x,rat y] K:=
 use (ZhW x y hx hy) rfl (k _ rfl (by have:=Zcw x.q y.q;have:=x.z1;have:=y.z1;rw [cn_z];omega))
theorem Zbm (hx:x.z≤4398046511104) (k:∀ q,q=-x.q→(cn q).z≤x.z+1→K (rat (cn q))):Ask 22 [rat x] K:=
 use (ZhV x hx) rfl (k _ rfl (by have:=ZbC x.q;have:=x.z1;rw [cn_z];omega))
theorem k_of (n:Int) (h1:-9223372036854775808≤n) (h2:n≤9223372036854775807) (k:∀ q,q=(n:Rat)→(cn q).z≤8→K (rat (cn q))):Ask 74 [int n] K:=
 use (Zjw n h1 h2) rfl (k _ rfl (by have:=Zbb h1 h2;rw [cn_z];omega))
theorem Zit (hx:x.z≤4398046511104) (k:∀ q,q=x.q→(cn q).z≤x.z+1→K (rat (cn q))):Ask 111 [rat x,rat x] K:=
 use (by have:=Zeo x x hx hx;rwa [ite_self] at this) rfl (k _ rfl (by have:=x.z1;rw [cn_z];omega))
theorem Zgv (p q:Rat):cmpQ p q≤0↔p≤q:=by
 unfold cmpQ
 by_cases h1:p< q
 ·rw [if_pos h1];exact⟨fun _=>Rat.le_of_lt h1,fun _=>by omega⟩
 ·rw [if_neg h1]
  by_cases h2:q< p
  ·rw [if_pos h2];exact⟨fun h=>by omega,fun h=>absurd h2 (Rat.not_lt.2 h)⟩
  ·rw [if_neg h2];exact⟨fun _=>Rat.not_lt.1 h2,fun _=>Int.le_refl _⟩
theorem ZiY (p q:Rat):0≤cmpQ p q↔q≤p:=by
 unfold cmpQ
 by_cases h1:p< q
 ·rw [if_pos h1];exact⟨fun h=>by omega,fun h=>absurd h1 (Rat.not_lt.2 h)⟩
 ·rw [if_neg h1]
  by_cases h2:q< p
  ·rw [if_pos h2];exact⟨fun _=>Rat.le_of_lt h2,fun _=>by omega⟩
  ·rw [if_neg h2];exact⟨fun _=>Rat.not_lt.1 h1,fun _=>Int.le_refl _⟩
theorem ZfC (p q:Rat):0< cmpQ p q↔q< p:=by
 have:=Zgv p q
 rw [← Rat.not_le,← this];omega
theorem ZkM (p q:Rat):cmpQ p q< 0↔p< q:=by
 have:=ZiY p q
 rw [← Rat.not_le,← this];omega
def minQ (p q:Rat):Rat:=if p≤q then p else q
def maxQ (p q:Rat):Rat:=if q≤p then p else q
theorem ZlQ (hx:x.z≤4398046511104) (hy:y.z≤4398046511104) (k:∀ q,q=minQ x.q y.q→(cn q).z≤x.z+y.z+1→K (rat (cn q))):Ask 111 [rat x,rat y] K:=
 use (by have:=Zeo x y hx hy;simp only [Zgv] at this;exact this) rfl (k _ rfl (by have:=x.z1;have:=y.z1;rw [cn_z];unfold minQ;split<;>omega))
theorem ZiA (hx:x.z≤4398046511104) (hy:y.z≤4398046511104) (k:∀ q,q=maxQ x.q y.q→(cn q).z≤x.z+y.z+1→K (rat (cn q))):Ask 78 [rat x,rat y] K:=
 use (by have:=ZhX x y hx hy;simp only [ZiY] at this;exact this) rfl (k _ rfl (by have:=x.z1;have:=y.z1;rw [cn_z];unfold maxQ;split<;>omega))
theorem ZM (hx:x.z≤4398046511104) (hy:y.z≤4398046511104) (k:∀ n,n=cmpQ x.q y.q→K (int n)):Ask 21 [rat x,rat y] K:=
 use (ZhZ x y hx hy) rfl (k _ rfl)
theorem ZcE (hx:x.z≤4398046511104) (k:∀ n,n=sgnQ x.q→K (int n)):Ask 71 [rat x] K:=
 use (ZgR x hx) rfl (k _ rfl)
theorem Zkf (hx:x.z≤4398046511104) (k:∀ b,b=decide x.good→K (bool b)):Ask 70 [rat x] K:=
 use (ZgV x hx) rfl (k _ rfl)
theorem Zln (hx:x.z≤4398046511104) (hy:y.z≤4398046511104) (h0:y.q≠0) (k:∀ q,q=x.q / y.q→(cn q).z≤x.z+y.z+3→K (two (rat (cn q)) (int 0))):Ask 109 [rat x,rat y] K:=
 use (by have:=ZhY x y hx hy;simp only [quotR,quotE,if_neg h0] at this;exact this) rfl (k _ rfl (by have:=ZfY x.q y.q;have:=x.z1;have:=y.z1;rw [cn_z];omega))
theorem Zcc (hx:x.z≤4398046511104) (k1:x.good→K (bool true)) (k0:¬ x.good→K (bool false)):Ask 70 [rat x] K:=by
 by_cases h:x.good
 ·exact Zkf hx fun b hb=>by rw [hb,decide_eq_true h];exact k1 h
 ·exact Zkf hx fun b hb=>by rw [hb,decide_eq_false h];exact k0 h
theorem Zlo (hx:x.z≤4398046511104) (hy:y.z≤4398046511104) (k1:x.q< y.q→K (int (-1))) (k2:x.q=y.q→K (int 0)) (k3:y.q< x.q→K (int 1)):Ask 21 [rat x,rat y] K:=by
 refine ZM hx hy fun n hn=> ?_
 unfold cmpQ at hn
 by_cases h1:x.q< y.q
 ·rw [if_pos h1] at hn;rw [hn];exact k1 h1
 ·rw [if_neg h1] at hn
  by_cases h2:y.q< x.q
  ·rw [if_pos h2] at hn;rw [hn];exact k3 h2
  ·rw [if_neg h2] at hn;rw [hn];exact k2 (Rat.le_antisymm (Rat.not_lt.1 h2) (Rat.not_lt.1 h1))
theorem Zkq (q:Rat):q.num< 0↔q< 0:=by
 rw [← Rat.not_le,← Rat.num_nonneg];omega
abbrev AskB (op:BinOp) (T:TypeId) (ox oy:Operand) (p q:Value) (K:AV→Prop):Prop:=∃ r,(∃ v,r=one v∧flat v=true∧∀ w,(do eqGuard op T ox oy p q;binOp op T p q:Sem Value).run Tryz.prog w= .ok v w)∧K r
theorem useB {op:BinOp} {T:TypeId} {ox oy:Operand} {p q:Value} {K:AV→Prop} {b:Bool} (h:∀ w,(do eqGuard op T ox oy p q;binOp op T p q:Sem Value).run Tryz.prog w= .ok (.bool b) w) (k:K (bool b)):AskB op T ox oy p q K:=
 ⟨_,⟨.bool b,rfl,rfl,h⟩,k⟩
theorem ZeF {ox oy:Operand} {x:RV} {y:RV} {x':RV} {y':RV} (H:x=x'∧y=y') (k:K (bool true)):AskB .eql 55 ox oy (.agg ⟨[.bool x.s,.string x.a,.string x.d,.bool y.s,.string y.a,.string y.d]⟩) (.agg ⟨[.bool x'.s,.string x'.a,.string x'.d,.bool y'.s,.string y'.a,.string y'.d]⟩) K:=useB (fun w=>by have:=ZjX ox oy x y x' y' w;rw [decide_eq_true H] at this;exact this) k
end
theorem ZdY {P:Program} {G:World→Prop} {f:FuncId} {args:List AV} {vals:List Value} {r:AV} {x:Value} (h:Spec P G f args r) (hr:pv r=some x) {w:World} (hG:G w) (hrel:Rel2 (fun y v=>DenAV w (fun _=>False) noBs noMem y v) vals args):
  Calls P f vals.toArray w fun e w'=>e= .returned x∧Below w.heap.size w w':=
 Calls.mono (h.2 w (fun _=>False) vals hG (fun b hb=>hb.elim) hrel) fun e w' ⟨y,he,hd,hb⟩=>⟨by rw [he,(Zf2 hr).1 hd],hb⟩
theorem Zh3 {w:World} {I:Nat→Prop} {bs:Bs} {mem:Mem}:∀ {vs:List AV} {l:List Value},pvl vs=some l→Rel2 (fun y v=>DenAV w I bs mem y v) l vs
 | [],l,h=>by simp only [pvl,Option.some.injEq] at h;subst h;exact Rel2.nil
 |v :: vs,l,h=>by
  simp only [pvl] at h
  split at h
  ·rename_i x l' hx hl
   obtain rfl:=(Option.some.inj h).symm
   exact(Zh3 hl).cons ((Zf2 hx).2 rfl)
  ·simp at h
end Go.Proofs.YtbgokkfhohodgaaGreatDoor.eng
