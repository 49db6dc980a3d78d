/- The engine at this program: how a function's walk begins, goes over a call of package rat, and ends. -/
import Derived.Test.YtpfemjpgbpnpkaaGreatDoorEngS
namespace Go.Proofs.YtpfemjpgbpnpkaaGreatDoor.eng
open Go.RowKit num mem seg q held ratA ratB ratC ratD ratE vars ratF
theorem Za {f : FuncId} {fn : Func} {c : Code} {nt : Nat} (hf : Tryz.prog.funcs[f]? = some fn) (hb : fn.body = some c) (hn : (fn.name == "runtime.NumGoroutine") = false) (hnt : fn.ntmps = nt) {rs : List ResultVar} (hrs : fn.results = ⟨rs⟩)
  (hc:codeOk c=true) {args:List AV} {r:AV} (hargs:freeAVs args=true) (hlen:Nat.ble args.length nt=true)
  (h:sp (prmOf Tryz.prog nt) c (RetIs (prmOf Tryz.prog nt) rs r) (envArgs 0 args) noMem):Spec Tryz.prog Tab f args r:=
 ZgJ (p:=prmOf Tryz.prog nt) hf hb hn hnt hrs ZqZ (fun _ _ h hb=>h.below hb (Nat.le_refl _)) mixed hc hargs hlen h
abbrev Ask (f:FuncId) (args:List AV) (K:AV→Prop):Prop:=∃ v,CallR Tryz.prog Tab f args v∧K v
theorem use {f:FuncId} {args:List AV} {r:AV} {K:AV→Prop} (h:Spec Tryz.prog Tab f args r) (hr:r.hs= []) (k:K r):Ask f args K:=⟨r,ZsN hr h,k⟩
theorem useN {f:FuncId} {args:List AV} {T n:Nat} {xs:List (List D)} {K:AV→Prop} (h:SpecR Tryz.prog Tab f args T n xs) (k:K (.new T n xs)):Ask f args K:=⟨.new T n xs,h,k⟩
theorem Zlh {f : FuncId} {fn : Func} {c : Code} {nt : Nat} (hf : Tryz.prog.funcs[f]? = some fn) (hb : fn.body = some c) (hn : (fn.name == "runtime.NumGoroutine") = false) (hnt : fn.ntmps = nt) {rs : List ResultVar} (hrs : fn.results = ⟨rs⟩)
  (hc:codeOk c=true) {args:List AV} {T n:Nat} {xs:List (List D)} (hargs:freeAVs args=true) (hlen:Nat.ble args.length nt=true)
  (h:sp (prmOf Tryz.prog nt) c (RetNew rs T n xs) (envArgs 0 args) noMem):SpecR Tryz.prog Tab f args T n xs:=
 Zq6 (p:=prmOf Tryz.prog nt) hf hb hn hnt hrs ZqZ (fun _ _ h hb=>h.below hb (Nat.le_refl _)) mixed hc hargs hlen h
theorem Zt0 (own : List Nat) {f : FuncId} {fn : Func} {c : Code} {nt : Nat} (hf : Tryz.prog.funcs[f]? = some fn) (hb : fn.body = some c) (hn : (fn.name == "runtime.NumGoroutine") = false) (hnt : fn.ntmps = nt) {rs : List ResultVar} (hrs : fn.results = ⟨rs⟩)
  (hc:codeOk c=true) {args:List AV} {r:AV} (hargs:freeAVs args=true) (hlen:Nat.ble args.length nt=true)
  (h:sp (prmOwn Tryz.prog nt own) c (RetIs (prmOwn Tryz.prog nt own) rs r) (envArgs 0 args) noMem):Spec Tryz.prog Tab f args r:=
 ZgJ (p:=prmOwn Tryz.prog nt own) hf hb hn hnt hrs ZqZ (fun _ _ h hb=>h.below hb (Nat.le_refl _)) mixed hc hargs hlen h
theorem ZwZ (own : List Nat) {f : FuncId} {fn : Func} {c : Code} {nt : Nat} (hf : Tryz.prog.funcs[f]? = some fn) (hb : fn.body = some c) (hn : (fn.name == "runtime.NumGoroutine") = false) (hnt : fn.ntmps = nt) {rs : List ResultVar} (hrs : fn.results = ⟨rs⟩)
  (hc:codeOk c=true) {args:List AV} (hargs:freeAVs args=true) (hlen:Nat.ble args.length nt=true)
  (h:sp (prmOwn Tryz.prog nt own) c (RetNil rs) (envArgs 0 args) noMem):Spec Tryz.prog Tab f args (.val (.one (.d (.v (.slice none 0 0))))):=
 Zq5 (p:=prmOwn Tryz.prog nt own) hf hb hn hnt hrs ZqZ (fun _ _ h hb=>h.below hb (Nat.le_refl _)) mixed hc hargs hlen h
theorem ZrQ {T:TypeId} {x y:Operand} (h:Tryz.prog.underlying T=some (.pointer (Tryz.prog.pointee T))) (w:World):(do eqGuard .neq T x y (.pointer none) (.pointer none);binOp .neq T (.pointer none) (.pointer none):Sem Value).run Tryz.prog w= .ok (.bool false) w:=by
 simp [eqGuard,run_neq_pointer_nil w T none h]
theorem RV.z1 (x:RV):qs x.q≤x.z+1:=by have:=x.qs_le;omega
section
variable {x y : RV} {K : AV → Prop}
theorem ZcC (hx:x.z≤4398046511104) (hy:y.z≤4398046511104) (k:∀ q,q=x.q+y.q→(cn q).z≤x.z+y.z+3→K (rat (cn q))):Ask 103 [rat x,rat y] K:=
 use (Zog x y hx hy) rfl (k _ rfl (by have:=ZC x.q y.q;have:=x.z1;have:=y.z1;rw [cn_z];omega))
theorem ZcW (hx:x.z≤4398046511104) (hy:y.z≤4398046511104) (k:∀ q,q=x.q - y.q→(cn q).z≤x.z+y.z+3→K (rat (cn q))):Ask 143 [rat x,rat y] K:=
 use (Zoa x y hx hy) rfl (k _ rfl (by have:=ZZ x.q y.q;have:=x.z1;have:=y.z1;rw [cn_z];omega))
theorem Zbb (hx:x.z≤4398046511104) (hy:y.z≤4398046511104) (k:∀ q,q=x.q*y.q→(cn q).z≤x.z+y.z+2→K (rat (cn q))):Ask 128 [rat x,rat y] K:=
 use (Zod x y hx hy) rfl (k _ rfl (by have:=Zt x.q y.q;have:=x.z1;have:=y.z1;rw [cn_z];omega))
theorem ZuU (hx:x.z≤4398046511104) (k:∀ q,q=-x.q→(cn q).z≤x.z+1→K (rat (cn q))):Ask 97 [rat x] K:=
 use (Zoc x hx) rfl (k _ rfl (by have:=Zdn x.q;have:=x.z1;rw [cn_z];omega))
theorem k_of (n:Int) (h1:-9223372036854775808≤n) (h2:n≤9223372036854775807) (k:∀ q,q=(n:Rat)→(cn q).z≤8→K (rat (cn q))):Ask 102 [int n] K:=
 use (Zrs n h1 h2) rfl (k _ rfl (by have:=Zaq h1 h2;rw [cn_z];omega))
theorem Zo9 (hx:x.z≤4398046511104) (k:∀ q,q=x.q→(cn q).z≤x.z+1→K (rat (cn q))):Ask 112 [rat x,rat x] K:=
 use (by have:=ZhX x x hx hx;rwa [ite_self] at this) rfl (k _ rfl (by have:=x.z1;rw [cn_z];omega))
theorem Zp8 (p q:Rat):cmpQ p q≤0↔p≤q:=by
 unfold cmpQ
 by_cases h1:p< q
 ·rw [if_pos h1];exact⟨fun _=>Rat.le_of_lt h1,fun _=>by omega⟩
 ·rw [if_neg h1]
  by_cases h2:q< p
  ·rw [if_pos h2];exact⟨fun h=>by omega,fun h=>absurd h2 (Rat.not_lt.2 h)⟩
  ·rw [if_neg h2];exact⟨fun _=>Rat.not_lt.1 h2,fun _=>Int.le_refl _⟩
theorem Zp9 (p q:Rat):0≤cmpQ p q↔q≤p:=by
 unfold cmpQ
 by_cases h1:p< q
 ·rw [if_pos h1];exact⟨fun h=>by omega,fun h=>absurd h1 (Rat.not_lt.2 h)⟩
 ·rw [if_neg h1]
  by_cases h2:q< p
  ·rw [if_pos h2];exact⟨fun _=>Rat.le_of_lt h2,fun _=>by omega⟩
  ·rw [if_neg h2];exact⟨fun _=>Rat.not_lt.1 h1,fun _=>Int.le_refl _⟩
theorem Zvq (p q:Rat):0< cmpQ p q↔q< p:=by
 have:=Zp8 p q
 rw [← Rat.not_le,← this];omega
theorem Zvr (p q:Rat):cmpQ p q< 0↔p< q:=by
 have:=Zp9 p q
 rw [← Rat.not_le,← this];omega
def minQ (p q:Rat):Rat:=if p≤q then p else q
def maxQ (p q:Rat):Rat:=if q≤p then p else q
theorem ZuV (hx:x.z≤4398046511104) (hy:y.z≤4398046511104) (k:∀ q,q=minQ x.q y.q→(cn q).z≤x.z+y.z+1→K (rat (cn q))):Ask 112 [rat x,rat y] K:=
 use (by have:=ZhX x y hx hy;simp only [Zp8] at this;exact this) rfl (k _ rfl (by have:=x.z1;have:=y.z1;rw [cn_z];unfold minQ;split<;>omega))
theorem ZuW (hx:x.z≤4398046511104) (hy:y.z≤4398046511104) (k:∀ q,q=maxQ x.q y.q→(cn q).z≤x.z+y.z+1→K (rat (cn q))):Ask 111 [rat x,rat y] K:=
 use (by have:=Zoe x y hx hy;simp only [Zp9] at this;exact this) rfl (k _ rfl (by have:=x.z1;have:=y.z1;rw [cn_z];unfold maxQ;split<;>omega))
theorem Zir (hx:x.z≤4398046511104) (hy:y.z≤4398046511104) (k:∀ n,n=cmpQ x.q y.q→K (int n)):Ask 96 [rat x,rat y] K:=
 use (Zof x y hx hy) rfl (k _ rfl)
theorem ZbC (hx:x.z≤4398046511104) (k:∀ n,n=sgnQ x.q→K (int n)):Ask 36 [rat x] K:=
 use (Zl2 x hx) rfl (k _ rfl)
theorem Zpc (hx:x.z≤4398046511104) (k:∀ b,b=decide x.good→K (bool b)):Ask 130 [rat x] K:=
 use (Zl6 x hx) rfl (k _ rfl)
theorem Zhd (hx:x.z≤4398046511104) (hy:y.z≤4398046511104) (h0:y.q≠0) (k:∀ q,q=x.q / y.q→(cn q).z≤x.z+y.z+3→K (two (rat (cn q)) (int 0))):Ask 38 [rat x,rat y] K:=
 use (by have:=ZhZ x y hx hy;simp only [quotR,quotE,if_neg h0] at this;exact this) rfl (k _ rfl (by have:=ZaQ x.q y.q;have:=x.z1;have:=y.z1;rw [cn_z];omega))
theorem ZwL (hx:x.z≤4398046511104) (hy:y.z≤4398046511104) (h0:y.q=0) (k:K (two (rat z0) (int 12))):Ask 38 [rat x,rat y] K:=
 use (by have:=ZhZ x y hx hy;simp only [quotR,quotE,if_pos h0] at this;exact this) rfl k
theorem Zfp (hx:x.z≤4398046511104) (hy:y.z≤4398046511104) (k:y.q≠0→∀ q,q=x.q / y.q→(cn q).z≤x.z+y.z+3→K (two (rat (cn q)) (int 0))) (k0:¬ y.q≠0→K (two (rat z0) (int 12))):Ask 38 [rat x,rat y] K:=by
 by_cases h:y.q=0
 ·exact ZwL hx hy h (k0 (fun e=>e h))
 ·exact Zhd hx hy h (k h)
theorem Zse (hx:x.z≤4398046511104) (k1:x.good→K (bool true)) (k0:¬ x.good→K (bool false)):Ask 130 [rat x] K:=by
 by_cases h:x.good
 ·exact Zpc hx fun b hb=>by rw [hb,decide_eq_true h];exact k1 h
 ·exact Zpc hx fun b hb=>by rw [hb,decide_eq_false h];exact k0 h
theorem Zjc (q:Rat):q.num< 0↔q< 0:=by
 rw [← Rat.not_le,← Rat.num_nonneg];omega
theorem ZgP (q:Rat):q.num=0↔q=0:=Rat.num_eq_zero
theorem Zra (q:Rat):0< sgnQ q↔0< q:=by
 unfold sgnQ
 by_cases h1:q.num=0
 ·rw [if_pos h1];have:=(ZgP _).1 h1;subst this;exact⟨fun h=>by omega,fun h=>absurd h (Rat.lt_irrefl)⟩
 ·rw [if_neg h1]
  by_cases h2:q.num< 0
  ·rw [if_pos h2];exact⟨fun h=>by omega,fun h=>absurd h (Rat.not_lt.2 (Rat.le_of_lt ((Zjc _).1 h2)))⟩
  ·rw [if_neg h2]
   refine⟨fun _=>Rat.not_le.1 fun h=> ?_,fun _=>by omega⟩
   rcases Rat.le_iff_lt_or_eq.1 h with h|h
   ·exact h2 ((Zjc _).2 h)
   ·exact h1 ((ZgP _).2 h)
abbrev AskB (op:BinOp) (T:TypeId) (ox oy:Operand) (p q:Value) (K:AV→Prop):Prop:=∃ r,(∃ v,r=one v∧flat v=true∧∀ w,(do eqGuard op T ox oy p q;binOp op T p q:Sem Value).run Tryz.prog w= .ok v w)∧K r
theorem useB {op:BinOp} {T:TypeId} {ox oy:Operand} {p q:Value} {K:AV→Prop} {b:Bool} (h:∀ w,(do eqGuard op T ox oy p q;binOp op T p q:Sem Value).run Tryz.prog w= .ok (.bool b) w) (k:K (bool b)):AskB op T ox oy p q K:=
 ⟨_,⟨.bool b,rfl,rfl,h⟩,k⟩
theorem Za8 {ox oy:Operand} {x:RV} {y:RV} (H:x=y) (k:K (bool true)):AskB .eql 23 ox oy (.agg ⟨[.bool x.s,.string x.a,.string x.d]⟩) (.agg ⟨[.bool y.s,.string y.a,.string y.d]⟩) K:=useB (fun w=>by have:=Zvf ox oy x y w;rw [decide_eq_true H] at this;exact this) k
theorem ZbR {ox oy:Operand} {x:RV} {y:RV} (H:x=y) (k:K (bool false)):AskB .neq 23 ox oy (.agg ⟨[.bool x.s,.string x.a,.string x.d]⟩) (.agg ⟨[.bool y.s,.string y.a,.string y.d]⟩) K:=useB (fun w=>by have:=ZoJ ox oy x y w;rw [decide_eq_true H] at this;exact this) k
theorem Zfn {ox oy:Operand} {x:RV} {y:RV} (k1:x=y→K (bool false)) (k0:¬ (x=y)→K (bool true)):AskB .neq 23 ox oy (.agg ⟨[.bool x.s,.string x.a,.string x.d]⟩) (.agg ⟨[.bool y.s,.string y.a,.string y.d]⟩) K:=by
 by_cases H:x=y
 ·exact ZbR H (k1 H)
 ·exact useB (fun w=>by have:=ZoJ ox oy x y w;rw [decide_eq_false H] at this;exact this) (k0 H)
theorem Za7 {ox oy:Operand} {x:RV} {y:RV} {x':RV} {y':RV} (H:x=x'∧y=y') (k:K (bool true)):AskB .eql 25 ox oy (.agg ⟨[.bool x.s,.string x.a,.string x.d,.bool y.s,.string y.a,.string y.d]⟩) (.agg ⟨[.bool x'.s,.string x'.a,.string x'.d,.bool y'.s,.string y'.a,.string y'.d]⟩) K:=useB (fun w=>by have:=Zve ox oy x y x' y' w;rw [decide_eq_true H] at this;exact this) k
theorem ZbQ {ox oy:Operand} {x:RV} {y:RV} {x':RV} {y':RV} (H:x=x'∧y=y') (k:K (bool false)):AskB .neq 25 ox oy (.agg ⟨[.bool x.s,.string x.a,.string x.d,.bool y.s,.string y.a,.string y.d]⟩) (.agg ⟨[.bool x'.s,.string x'.a,.string x'.d,.bool y'.s,.string y'.a,.string y'.d]⟩) K:=useB (fun w=>by have:=ZuB ox oy x y x' y' w;rw [decide_eq_true H] at this;exact this) k
theorem Zce {ox oy:Operand} {h:Bool} {x:RV} {h':Bool} {x':RV} (H:h=h'∧x=x') (k:K (bool true)):AskB .eql 27 ox oy (.agg ⟨[.bool h,.bool x.s,.string x.a,.string x.d]⟩) (.agg ⟨[.bool h',.bool x'.s,.string x'.a,.string x'.d]⟩) K:=useB (fun w=>by have:=ZsE ox oy h x h' x' w;rw [decide_eq_true H] at this;exact this) k
theorem Zfo {ox oy:Operand} {x:RV} {y:RV} {z:RV} {t:RV} {x':RV} {y':RV} {z':RV} {t':RV} (H:x=x'∧y=y'∧z=z'∧t=t') (k:K (bool true)):AskB .eql 129 ox oy (.agg ⟨[.bool x.s,.string x.a,.string x.d,.bool y.s,.string y.a,.string y.d,.bool z.s,.string z.a,.string z.d,.bool t.s,.string t.a,.string t.d]⟩) (.agg ⟨[.bool x'.s,.string x'.a,.string x'.d,.bool y'.s,.string y'.a,.string y'.d,.bool z'.s,.string z'.a,.string z'.d,.bool t'.s,.string t'.a,.string t'.d]⟩) K:=useB (fun w=>by have:=Zvg ox oy x y z t x' y' z' t' w;rw [decide_eq_true H] at this;exact this) k
theorem ZjK {ox oy:Operand} {x:RV} {y:RV} {z:RV} {t:RV} {x':RV} {y':RV} {z':RV} {t':RV} (H:x=x'∧y=y'∧z=z'∧t=t') (k:K (bool false)):AskB .neq 129 ox oy (.agg ⟨[.bool x.s,.string x.a,.string x.d,.bool y.s,.string y.a,.string y.d,.bool z.s,.string z.a,.string z.d,.bool t.s,.string t.a,.string t.d]⟩) (.agg ⟨[.bool x'.s,.string x'.a,.string x'.d,.bool y'.s,.string y'.a,.string y'.d,.bool z'.s,.string z'.a,.string z'.d,.bool t'.s,.string t'.a,.string t'.d]⟩) K:=useB (fun w=>by have:=ZuC ox oy x y z t x' y' z' t' w;rw [decide_eq_true H] at this;exact this) k
theorem Zlk (ox oy:Operand) (b c:Bool) (w:World):(do eqGuard .eql 4 ox oy (.bool b) (.bool c);binOp .eql 4 (.bool b) (.bool c):Sem Value).run Tryz.prog w= .ok (.bool (decide (b=c))) w:=by
 have:(do eqGuard .eql 4 ox oy (.bool b) (.bool c);binOp .eql 4 (.bool b) (.bool c):Sem Value).run Tryz.prog w= .ok (.bool (b==c)) w:=by simp [go_sem]
 rw [this];cases b<;>cases c<;>rfl
theorem ZrR (ox oy:Operand) (b c:Bool) (w:World):(do eqGuard .neq 4 ox oy (.bool b) (.bool c);binOp .neq 4 (.bool b) (.bool c):Sem Value).run Tryz.prog w= .ok (.bool (!decide (b=c))) w:=by
 have:(do eqGuard .neq 4 ox oy (.bool b) (.bool c);binOp .neq 4 (.bool b) (.bool c):Sem Value).run Tryz.prog w= .ok (.bool (!(b==c))) w:=by simp [go_sem]
 rw [this];cases b<;>cases c<;>rfl
theorem Zei {ox oy:Operand} {b c:Bool} (H:b=c) (k:K (bool true)):AskB .eql 4 ox oy (.bool b) (.bool c) K:=useB (fun w=>by have:=Zlk ox oy b c w;rw [decide_eq_true H] at this;exact this) k
theorem Ziq {ox oy:Operand} {b c:Bool} (k1:b=c→K (bool true)) (k0:¬ b=c→K (bool false)):AskB .eql 4 ox oy (.bool b) (.bool c) K:=by
 by_cases H:b=c
 ·exact Zei H (k1 H)
 ·exact useB (fun w=>by have:=Zlk ox oy b c w;rw [decide_eq_false H] at this;exact this) (k0 H)
theorem Zgm {ox oy:Operand} {b c:Bool} (k:∀ d,d=(!decide (b=c))→K (bool d)):AskB .neq 4 ox oy (.bool b) (.bool c) K:=useB (fun w=>ZrR ox oy b c w) (k _ rfl)
end
theorem Zar {P:Program} {G:World→Prop} {f:FuncId} {args:List AV} {vals:List Value} {r:AV} {x:Value} (h:Spec P G f args r) (hr:pv r=some x) {w:World} {I:Nat→Prop} (hG:G w) (hI:∀ b,I b→b< w.heap.size) (hrel:Rel2 (fun y v=>DenAV w I noBs noMem y v) vals args):
  Calls P f vals.toArray w fun e w'=>e= .returned x∧Below w.heap.size w w':=
 Calls.mono (h.2 w I vals hG hI hrel) fun e w' ⟨y,he,hd,hb⟩=>⟨by rw [he,(Zb8 hr).1 hd],hb⟩
theorem ZdU {w:World} {I:Nat→Prop} {bs:Bs} {mem:Mem}:∀ {vs:List AV} {l:List Value},pvl vs=some l→Rel2 (fun y v=>DenAV w I bs mem y v) l vs
 | [],l,h=>by simp only [pvl,Option.some.injEq] at h;subst h;exact Rel2.nil
 |v :: vs,l,h=>by
  simp only [pvl] at h
  split at h
  ·rename_i x l' hx hl
   obtain rfl:=(Option.some.inj h).symm
   exact(ZdU hl).cons ((Zb8 hx).2 rfl)
  ·simp at h
end Go.Proofs.YtpfemjpgbpnpkaaGreatDoor.eng
