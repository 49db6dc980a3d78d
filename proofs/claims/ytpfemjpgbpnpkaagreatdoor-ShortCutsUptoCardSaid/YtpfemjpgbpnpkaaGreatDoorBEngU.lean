/- The engine at this program: how a function's walk begins, goes over a call of package rat, and ends. -/
import Derived.Test.YtpfemjpgbpnpkaaGreatDoorBEngS
namespace Go.Proofs.YtpfemjpgbpnpkaaGreatDoor.eng
open Go.RowKit num mem seg q held ratA ratB ratC ratD ratE vars ratF
theorem Za {f : FuncId} {fn : Func} {c : Code} {nt : Nat} (hf : Tryz.prog.funcs[f]? = some fn) (hb : fn.body = some c) (hn : (fn.name == "runtime.NumGoroutine") = false) (hnt : fn.ntmps = nt) {rs : List ResultVar} (hrs : fn.results = ⟨rs⟩)
  (hc:codeOk c=true) {args:List AV} {r:AV} (hargs:freeAVs args=true) (hlen:Nat.ble args.length nt=true)
  (h:sp (prmOf Tryz.prog nt) c (RetIs (prmOf Tryz.prog nt) rs r) (envArgs 0 args) noMem):Spec Tryz.prog Tab f args r:=
 ZhO (p:=prmOf Tryz.prog nt) hf hb hn hnt hrs ZtR (fun _ _ h hb=>h.below hb (Nat.le_refl _)) mixed hc hargs hlen h
abbrev Ask (f:FuncId) (args:List AV) (K:AV→Prop):Prop:=∃ v,CallR Tryz.prog Tab f args v∧K v
theorem use {f:FuncId} {args:List AV} {r:AV} {K:AV→Prop} (h:Spec Tryz.prog Tab f args r) (hr:r.hs= []) (k:K r):Ask f args K:=⟨r,Zqf hr h,k⟩
theorem RV.z1 (x:RV):qs x.q≤x.z+1:=by have:=x.qs_le;omega
section
variable {x y : RV} {K : AV → Prop}
theorem Zel (hx:x.z≤4398046511104) (hy:y.z≤4398046511104) (k:∀ q,q=x.q+y.q→(cn q).z≤x.z+y.z+3→K (rat (cn q))):Ask 103 [rat x,rat y] K:=
 use (ZmG x y hx hy) rfl (k _ rfl (by have:=ZI x.q y.q;have:=x.z1;have:=y.z1;rw [cn_z];omega))
theorem Zhb (hx:x.z≤4398046511104) (hy:y.z≤4398046511104) (k:∀ q,q=x.q - y.q→(cn q).z≤x.z+y.z+3→K (rat (cn q))):Ask 143 [rat x,rat y] K:=
 use (Zmy x y hx hy) rfl (k _ rfl (by have:=Zaf x.q y.q;have:=x.z1;have:=y.z1;rw [cn_z];omega))
theorem ZcQ (hx:x.z≤4398046511104) (hy:y.z≤4398046511104) (k:∀ q,q=x.q*y.q→(cn q).z≤x.z+y.z+2→K (rat (cn q))):Ask 128 [rat x,rat y] K:=
 use (ZmB x y hx hy) rfl (k _ rfl (by have:=ZS x.q y.q;have:=x.z1;have:=y.z1;rw [cn_z];omega))
theorem ZrU (hx:x.z≤4398046511104) (k:∀ q,q=-x.q→(cn q).z≤x.z+1→K (rat (cn q))):Ask 97 [rat x] K:=
 use (ZmA x hx) rfl (k _ rfl (by have:=ZbJ x.q;have:=x.z1;rw [cn_z];omega))
theorem k_of (n:Int) (h1:-9223372036854775808≤n) (h2:n≤9223372036854775807) (k:∀ q,q=(n:Rat)→(cn q).z≤8→K (rat (cn q))):Ask 102 [int n] K:=
 use (Zpm n h1 h2) rfl (k _ rfl (by have:=ZaI h1 h2;rw [cn_z];omega))
theorem ZqR (hx:x.z≤4398046511104) (k:∀ q,q=x.q→(cn q).z≤x.z+1→K (rat (cn q))):Ask 112 [rat x,rat x] K:=
 use (by have:=ZgO x x hx hx;rwa [ite_self] at this) rfl (k _ rfl (by have:=x.z1;rw [cn_z];omega))
theorem Zoi (p q:Rat):cmpQ p q≤0↔p≤q:=by
 unfold cmpQ
 by_cases h1:p< q
 ·rw [if_pos h1];exact⟨fun _=>Rat.le_of_lt h1,fun _=>by omega⟩
 ·rw [if_neg h1]
  by_cases h2:q< p
  ·rw [if_pos h2];exact⟨fun h=>by omega,fun h=>absurd h2 (Rat.not_lt.2 h)⟩
  ·rw [if_neg h2];exact⟨fun _=>Rat.not_lt.1 h2,fun _=>Int.le_refl _⟩
theorem Zq4 (p q:Rat):0≤cmpQ p q↔q≤p:=by
 unfold cmpQ
 by_cases h1:p< q
 ·rw [if_pos h1];exact⟨fun h=>by omega,fun h=>absurd h1 (Rat.not_lt.2 h)⟩
 ·rw [if_neg h1]
  by_cases h2:q< p
  ·rw [if_pos h2];exact⟨fun _=>Rat.le_of_lt h2,fun _=>by omega⟩
  ·rw [if_neg h2];exact⟨fun _=>Rat.not_lt.1 h1,fun _=>Int.le_refl _⟩
def minQ (p q:Rat):Rat:=if p≤q then p else q
def maxQ (p q:Rat):Rat:=if q≤p then p else q
theorem ZkX (hx:x.z≤4398046511104) (hy:y.z≤4398046511104) (k:∀ q,q=minQ x.q y.q→(cn q).z≤x.z+y.z+1→K (rat (cn q))):Ask 112 [rat x,rat y] K:=
 use (by have:=ZgO x y hx hy;simp only [Zoi] at this;exact this) rfl (k _ rfl (by have:=x.z1;have:=y.z1;rw [cn_z];unfold minQ;split<;>omega))
theorem ZkY (hx:x.z≤4398046511104) (hy:y.z≤4398046511104) (k:∀ q,q=maxQ x.q y.q→(cn q).z≤x.z+y.z+1→K (rat (cn q))):Ask 111 [rat x,rat y] K:=
 use (by have:=ZmC x y hx hy;simp only [Zq4] at this;exact this) rfl (k _ rfl (by have:=x.z1;have:=y.z1;rw [cn_z];unfold maxQ;split<;>omega))
theorem Zek (hx:x.z≤4398046511104) (hy:y.z≤4398046511104) (k:∀ n,n=cmpQ x.q y.q→K (int n)):Ask 96 [rat x,rat y] K:=
 use (ZmF x y hx hy) rfl (k _ rfl)
theorem Zef (hx:x.z≤4398046511104) (k:∀ n,n=sgnQ x.q→K (int n)):Ask 36 [rat x] K:=
 use (ZkA x hx) rfl (k _ rfl)
theorem ZnB (hx:x.z≤4398046511104) (k:∀ b,b=decide x.good→K (bool b)):Ask 130 [rat x] K:=
 use (ZkC x hx) rfl (k _ rfl)
theorem Zr0 (hx:x.z≤4398046511104) (hy:y.z≤4398046511104) (h0:y.q≠0) (k:∀ q,q=x.q / y.q→(cn q).z≤x.z+y.z+3→K (two (rat (cn q)) (int 0))):Ask 38 [rat x,rat y] K:=
 use (by have:=ZmE x y hx hy;simp only [quotR,quotE,if_neg h0] at this;exact this) rfl (k _ rfl (by have:=Zb8 x.q y.q;have:=x.z1;have:=y.z1;rw [cn_z];omega))
theorem ZjE (hx:x.z≤4398046511104) (k1:x.good→K (bool true)) (k0:¬ x.good→K (bool false)):Ask 130 [rat x] K:=by
 by_cases h:x.good
 ·exact ZnB hx fun b hb=>by rw [hb,decide_eq_true h];exact k1 h
 ·exact ZnB hx fun b hb=>by rw [hb,decide_eq_false h];exact k0 h
theorem Ztp (hx:x.z≤4398046511104) (hy:y.z≤4398046511104) (k1:x.q< y.q→K (int (-1))) (k2:x.q=y.q→K (int 0)) (k3:y.q< x.q→K (int 1)):Ask 96 [rat x,rat y] K:=by
 refine Zek hx hy fun n hn=> ?_
 unfold cmpQ at hn
 by_cases h1:x.q< y.q
 ·rw [if_pos h1] at hn;rw [hn];exact k1 h1
 ·rw [if_neg h1] at hn
  by_cases h2:y.q< x.q
  ·rw [if_pos h2] at hn;rw [hn];exact k3 h2
  ·rw [if_neg h2] at hn;rw [hn];exact k2 (Rat.le_antisymm (Rat.not_lt.1 h2) (Rat.not_lt.1 h1))
theorem ZfI (q:Rat):q.num< 0↔q< 0:=by
 rw [← Rat.not_le,← Rat.num_nonneg];omega
theorem ZfH (q:Rat):q.num=0↔q=0:=Rat.num_eq_zero
theorem Zjc (q:Rat):0< sgnQ q↔0< q:=by
 unfold sgnQ
 by_cases h1:q.num=0
 ·rw [if_pos h1];have:=(ZfH _).1 h1;subst this;exact⟨fun h=>by omega,fun h=>absurd h (Rat.lt_irrefl)⟩
 ·rw [if_neg h1]
  by_cases h2:q.num< 0
  ·rw [if_pos h2];exact⟨fun h=>by omega,fun h=>absurd h (Rat.not_lt.2 (Rat.le_of_lt ((ZfI _).1 h2)))⟩
  ·rw [if_neg h2]
   refine⟨fun _=>Rat.not_le.1 fun h=> ?_,fun _=>by omega⟩
   rcases Rat.le_iff_lt_or_eq.1 h with h|h
   ·exact h2 ((ZfI _).2 h)
   ·exact h1 ((ZfH _).2 h)
abbrev AskB (op:BinOp) (T:TypeId) (ox oy:Operand) (p q:Value) (K:AV→Prop):Prop:=∃ r,(∃ v,r=one v∧flat v=true∧∀ w,(do eqGuard op T ox oy p q;binOp op T p q:Sem Value).run Tryz.prog w= .ok v w)∧K r
theorem useB {op:BinOp} {T:TypeId} {ox oy:Operand} {p q:Value} {K:AV→Prop} {b:Bool} (h:∀ w,(do eqGuard op T ox oy p q;binOp op T p q:Sem Value).run Tryz.prog w= .ok (.bool b) w) (k:K (bool b)):AskB op T ox oy p q K:=
 ⟨_,⟨.bool b,rfl,rfl,h⟩,k⟩
theorem Zik {ox oy:Operand} {x:RV} {y:RV} (H:x=y) (k:K (bool false)):AskB .neq 23 ox oy (.agg ⟨[.bool x.s,.string x.a,.string x.d]⟩) (.agg ⟨[.bool y.s,.string y.a,.string y.d]⟩) K:=useB (fun w=>by have:=ZmY ox oy x y w;rw [decide_eq_true H] at this;exact this) k
theorem Zej {ox oy:Operand} {x:RV} {y:RV} (k1:x=y→K (bool false)) (k0:¬ (x=y)→K (bool true)):AskB .neq 23 ox oy (.agg ⟨[.bool x.s,.string x.a,.string x.d]⟩) (.agg ⟨[.bool y.s,.string y.a,.string y.d]⟩) K:=by
 by_cases H:x=y
 ·exact Zik H (k1 H)
 ·exact useB (fun w=>by have:=ZmY ox oy x y w;rw [decide_eq_false H] at this;exact this) (k0 H)
theorem ZjP (ox oy:Operand) (b c:Bool) (w:World):(do eqGuard .eql 4 ox oy (.bool b) (.bool c);binOp .eql 4 (.bool b) (.bool c):Sem Value).run Tryz.prog w= .ok (.bool (decide (b=c))) w:=by
 have:(do eqGuard .eql 4 ox oy (.bool b) (.bool c);binOp .eql 4 (.bool b) (.bool c):Sem Value).run Tryz.prog w= .ok (.bool (b==c)) w:=by simp [go_sem]
 rw [this];cases b<;>cases c<;>rfl
theorem Zpz (ox oy:Operand) (b c:Bool) (w:World):(do eqGuard .neq 4 ox oy (.bool b) (.bool c);binOp .neq 4 (.bool b) (.bool c):Sem Value).run Tryz.prog w= .ok (.bool (!decide (b=c))) w:=by
 have:(do eqGuard .neq 4 ox oy (.bool b) (.bool c);binOp .neq 4 (.bool b) (.bool c):Sem Value).run Tryz.prog w= .ok (.bool (!(b==c))) w:=by simp [go_sem]
 rw [this];cases b<;>cases c<;>rfl
theorem Zhd {ox oy:Operand} {b c:Bool} (H:b=c) (k:K (bool true)):AskB .eql 4 ox oy (.bool b) (.bool c) K:=useB (fun w=>by have:=ZjP ox oy b c w;rw [decide_eq_true H] at this;exact this) k
theorem Zhe {ox oy:Operand} {b c:Bool} (k1:b=c→K (bool true)) (k0:¬ b=c→K (bool false)):AskB .eql 4 ox oy (.bool b) (.bool c) K:=by
 by_cases H:b=c
 ·exact Zhd H (k1 H)
 ·exact useB (fun w=>by have:=ZjP ox oy b c w;rw [decide_eq_false H] at this;exact this) (k0 H)
theorem Zfc {ox oy:Operand} {b c:Bool} (k:∀ d,d=(!decide (b=c))→K (bool d)):AskB .neq 4 ox oy (.bool b) (.bool c) K:=useB (fun w=>Zpz ox oy b c w) (k _ rfl)
end
theorem ZeK {P:Program} {G:World→Prop} {f:FuncId} {args:List AV} {vals:List Value} {r:AV} {x:Value} (h:Spec P G f args r) (hr:pv r=some x) {w:World} {I:Nat→Prop} (hG:G w) (hI:∀ b,I b→b< w.heap.size) (hrel:Rel2 (fun y v=>DenAV w I noBs noMem y v) vals args):
  Calls P f vals.toArray w fun e w'=>e= .returned x∧Below w.heap.size w w':=
 Calls.mono (h.2 w I vals hG hI hrel) fun e w' ⟨y,he,hd,hb⟩=>⟨by rw [he,(ZgQ hr).1 hd],hb⟩
theorem ZmJ {w:World} {I:Nat→Prop} {bs:Bs} {mem:Mem}:∀ {vs:List AV} {l:List Value},pvl vs=some l→Rel2 (fun y v=>DenAV w I bs mem y v) l vs
 | [],l,h=>by simp only [pvl,Option.some.injEq] at h;subst h;exact Rel2.nil
 |v :: vs,l,h=>by
  simp only [pvl] at h
  split at h
  ·rename_i x l' hx hl
   obtain rfl:=(Option.some.inj h).symm
   exact(ZmJ hl).cons ((ZgQ hx).2 rfl)
  ·simp at h
end Go.Proofs.YtpfemjpgbpnpkaaGreatDoor.eng
