/- The engine at this program: how a function's walk begins, goes over a call of package rat, and ends. -/
import Derived.Test.YtpfemjpgbpnpkaaGreatDoorCEngS
namespace Go.Proofs.YtpfemjpgbpnpkaaGreatDoor.eng
open Go.RowKit num mem seg q held ratA ratB ratC ratD ratE vars ratF
theorem Zb {f : FuncId} {fn : Func} {c : Code} {nt : Nat} (hf : Tryz.prog.funcs[f]? = some fn) (hb : fn.body = some c) (hn : (fn.name == "runtime.NumGoroutine") = false) (hnt : fn.ntmps = nt) {rs : List ResultVar} (hrs : fn.results = ⟨rs⟩)
  (hc:codeOk c=true) {args:List AV} {r:AV} (hargs:freeAVs args=true) (hlen:Nat.ble args.length nt=true)
  (h:sp (prmOf Tryz.prog nt) c (RetIs (prmOf Tryz.prog nt) rs r) (envArgs 0 args) noMem):Spec Tryz.prog Tab f args r:=
 ZfT (p:=prmOf Tryz.prog nt) hf hb hn hnt hrs Zoe (fun _ _ h hb=>h.below hb (Nat.le_refl _)) mixed hc hargs hlen h
abbrev Ask (f:FuncId) (args:List AV) (K:AV→Prop):Prop:=∃ v,CallR Tryz.prog Tab f args v∧K v
theorem use {f:FuncId} {args:List AV} {r:AV} {K:AV→Prop} (h:Spec Tryz.prog Tab f args r) (hr:r.hs= []) (k:K r):Ask f args K:=⟨r,Zbo hr h,k⟩
theorem RV.z1 (x:RV):qs x.q≤x.z+1:=by have:=x.qs_le;omega
section
variable {x y : RV} {K : AV → Prop}
theorem ZnS (hx:x.z≤4398046511104) (hy:y.z≤4398046511104) (k:∀ q,q=x.q+y.q→(cn q).z≤x.z+y.z+3→K (rat (cn q))):Ask 103 [rat x,rat y] K:=
 use (Zjg x y hx hy) rfl (k _ rfl (by have:=Zg4 x.q y.q;have:=x.z1;have:=y.z1;rw [cn_z];omega))
theorem Zgn (hx:x.z≤4398046511104) (hy:y.z≤4398046511104) (k:∀ q,q=x.q - y.q→(cn q).z≤x.z+y.z+3→K (rat (cn q))):Ask 143 [rat x,rat y] K:=
 use (Zi8 x y hx hy) rfl (k _ rfl (by have:=Zcy x.q y.q;have:=x.z1;have:=y.z1;rw [cn_z];omega))
theorem Zly (hx:x.z≤4398046511104) (hy:y.z≤4398046511104) (k:∀ q,q=x.q*y.q→(cn q).z≤x.z+y.z+2→K (rat (cn q))):Ask 128 [rat x,rat y] K:=
 use (Zja x y hx hy) rfl (k _ rfl (by have:=Zc7 x.q y.q;have:=x.z1;have:=y.z1;rw [cn_z];omega))
theorem k_of (n:Int) (h1:-9223372036854775808≤n) (h2:n≤9223372036854775807) (k:∀ q,q=(n:Rat)→(cn q).z≤8→K (rat (cn q))):Ask 102 [int n] K:=
 use (Zk8 n h1 h2) rfl (k _ rfl (by have:=ZdR h1 h2;rw [cn_z];omega))
theorem Zmn (p q:Rat):cmpQ p q≤0↔p≤q:=by
 unfold cmpQ
 by_cases h1:p< q
 ·rw [if_pos h1];exact⟨fun _=>Rat.le_of_lt h1,fun _=>by omega⟩
 ·rw [if_neg h1]
  by_cases h2:q< p
  ·rw [if_pos h2];exact⟨fun h=>by omega,fun h=>absurd h2 (Rat.not_lt.2 h)⟩
  ·rw [if_neg h2];exact⟨fun _=>Rat.not_lt.1 h2,fun _=>Int.le_refl _⟩
theorem Zkm (p q:Rat):0≤cmpQ p q↔q≤p:=by
 unfold cmpQ
 by_cases h1:p< q
 ·rw [if_pos h1];exact⟨fun h=>by omega,fun h=>absurd h1 (Rat.not_lt.2 h)⟩
 ·rw [if_neg h1]
  by_cases h2:q< p
  ·rw [if_pos h2];exact⟨fun _=>Rat.le_of_lt h2,fun _=>by omega⟩
  ·rw [if_neg h2];exact⟨fun _=>Rat.not_lt.1 h1,fun _=>Int.le_refl _⟩
theorem Zm5 (p q:Rat):0< cmpQ p q↔q< p:=by
 have:=Zmn p q
 rw [← Rat.not_le,← this];omega
theorem Zm6 (p q:Rat):cmpQ p q< 0↔p< q:=by
 have:=Zkm p q
 rw [← Rat.not_le,← this];omega
def minQ (p q:Rat):Rat:=if p≤q then p else q
def maxQ (p q:Rat):Rat:=if q≤p then p else q
theorem Zol (hx:x.z≤4398046511104) (hy:y.z≤4398046511104) (k:∀ q,q=minQ x.q y.q→(cn q).z≤x.z+y.z+1→K (rat (cn q))):Ask 112 [rat x,rat y] K:=
 use (by have:=Zjb x y hx hy;simp only [Zmn] at this;exact this) rfl (k _ rfl (by have:=x.z1;have:=y.z1;rw [cn_z];unfold minQ;split<;>omega))
theorem Zom (hx:x.z≤4398046511104) (hy:y.z≤4398046511104) (k:∀ q,q=maxQ x.q y.q→(cn q).z≤x.z+y.z+1→K (rat (cn q))):Ask 111 [rat x,rat y] K:=
 use (by have:=Zjc x y hx hy;simp only [Zkm] at this;exact this) rfl (k _ rfl (by have:=x.z1;have:=y.z1;rw [cn_z];unfold maxQ;split<;>omega))
theorem ZmR (hx:x.z≤4398046511104) (hy:y.z≤4398046511104) (k:∀ n,n=cmpQ x.q y.q→K (int n)):Ask 96 [rat x,rat y] K:=
 use (Zjf x y hx hy) rfl (k _ rfl)
theorem Zfq (hx:x.z≤4398046511104) (k:∀ n,n=sgnQ x.q→K (int n)):Ask 36 [rat x] K:=
 use (ZhU x hx) rfl (k _ rfl)
theorem ZnR (hx:x.z≤4398046511104) (k:∀ b,b=decide x.good→K (bool b)):Ask 130 [rat x] K:=
 use (ZhX x hx) rfl (k _ rfl)
theorem Zoo (hx:x.z≤4398046511104) (hy:y.z≤4398046511104) (h0:y.q≠0) (k:∀ q,q=x.q / y.q→(cn q).z≤x.z+y.z+3→K (two (rat (cn q)) (int 0))):Ask 38 [rat x,rat y] K:=
 use (by have:=Zje x y hx hy;simp only [quotR,quotE,if_neg h0] at this;exact this) rfl (k _ rfl (by have:=Zji x.q y.q;have:=x.z1;have:=y.z1;rw [cn_z];omega))
theorem Zf1 (q:Rat):q.num< 0↔q< 0:=by
 rw [← Rat.not_le,← Rat.num_nonneg];omega
theorem Zek (q:Rat):q.num=0↔q=0:=Rat.num_eq_zero
theorem ZkT (q:Rat):0< sgnQ q↔0< q:=by
 unfold sgnQ
 by_cases h1:q.num=0
 ·rw [if_pos h1];have:=(Zek _).1 h1;subst this;exact⟨fun h=>by omega,fun h=>absurd h (Rat.lt_irrefl)⟩
 ·rw [if_neg h1]
  by_cases h2:q.num< 0
  ·rw [if_pos h2];exact⟨fun h=>by omega,fun h=>absurd h (Rat.not_lt.2 (Rat.le_of_lt ((Zf1 _).1 h2)))⟩
  ·rw [if_neg h2]
   refine⟨fun _=>Rat.not_le.1 fun h=> ?_,fun _=>by omega⟩
   rcases Rat.le_iff_lt_or_eq.1 h with h|h
   ·exact h2 ((Zf1 _).2 h)
   ·exact h1 ((Zek _).2 h)
abbrev AskB (op:BinOp) (T:TypeId) (ox oy:Operand) (p q:Value) (K:AV→Prop):Prop:=∃ r,(∃ v,r=one v∧flat v=true∧∀ w,(do eqGuard op T ox oy p q;binOp op T p q:Sem Value).run Tryz.prog w= .ok v w)∧K r
theorem useB {op:BinOp} {T:TypeId} {ox oy:Operand} {p q:Value} {K:AV→Prop} {b:Bool} (h:∀ w,(do eqGuard op T ox oy p q;binOp op T p q:Sem Value).run Tryz.prog w= .ok (.bool b) w) (k:K (bool b)):AskB op T ox oy p q K:=
 ⟨_,⟨.bool b,rfl,rfl,h⟩,k⟩
theorem ZbI {ox oy:Operand} {x:RV} {y:RV} (H:x=y) (k:K (bool true)):AskB .eql 23 ox oy (.agg ⟨[.bool x.s,.string x.a,.string x.d]⟩) (.agg ⟨[.bool y.s,.string y.a,.string y.d]⟩) K:=useB (fun w=>by have:=Zm2 ox oy x y w;rw [decide_eq_true H] at this;exact this) k
theorem Z8 {ox oy:Operand} {x:RV} {y:RV} (H:x=y) (k:K (bool false)):AskB .neq 23 ox oy (.agg ⟨[.bool x.s,.string x.a,.string x.d]⟩) (.agg ⟨[.bool y.s,.string y.a,.string y.d]⟩) K:=useB (fun w=>by have:=Zjv ox oy x y w;rw [decide_eq_true H] at this;exact this) k
theorem Zde {ox oy:Operand} {x:RV} {y:RV} (k1:x=y→K (bool false)) (k0:¬ (x=y)→K (bool true)):AskB .neq 23 ox oy (.agg ⟨[.bool x.s,.string x.a,.string x.d]⟩) (.agg ⟨[.bool y.s,.string y.a,.string y.d]⟩) K:=by
 by_cases H:x=y
 ·exact Z8 H (k1 H)
 ·exact useB (fun w=>by have:=Zjv ox oy x y w;rw [decide_eq_false H] at this;exact this) (k0 H)
theorem ZcC {ox oy:Operand} {x:RV} {y:RV} {x':RV} {y':RV} (H:x=x'∧y=y') (k:K (bool false)):AskB .neq 61 ox oy (.agg ⟨[.bool x.s,.string x.a,.string x.d,.bool y.s,.string y.a,.string y.d]⟩) (.agg ⟨[.bool x'.s,.string x'.a,.string x'.d,.bool y'.s,.string y'.a,.string y'.d]⟩) K:=useB (fun w=>by have:=Zlj ox oy x y x' y' w;rw [decide_eq_true H] at this;exact this) k
theorem Zhq (ox oy:Operand) (b c:Bool) (w:World):(do eqGuard .eql 4 ox oy (.bool b) (.bool c);binOp .eql 4 (.bool b) (.bool c):Sem Value).run Tryz.prog w= .ok (.bool (decide (b=c))) w:=by
 have:(do eqGuard .eql 4 ox oy (.bool b) (.bool c);binOp .eql 4 (.bool b) (.bool c):Sem Value).run Tryz.prog w= .ok (.bool (b==c)) w:=by simp [go_sem]
 rw [this];cases b<;>cases c<;>rfl
theorem Zex (ox oy:Operand) (b c:Bool) (w:World):(do eqGuard .neq 4 ox oy (.bool b) (.bool c);binOp .neq 4 (.bool b) (.bool c):Sem Value).run Tryz.prog w= .ok (.bool (!decide (b=c))) w:=by
 have:(do eqGuard .neq 4 ox oy (.bool b) (.bool c);binOp .neq 4 (.bool b) (.bool c):Sem Value).run Tryz.prog w= .ok (.bool (!(b==c))) w:=by simp [go_sem]
 rw [this];cases b<;>cases c<;>rfl
theorem Zfu {ox oy:Operand} {b c:Bool} (H:b=c) (k:K (bool true)):AskB .eql 4 ox oy (.bool b) (.bool c) K:=useB (fun w=>by have:=Zhq ox oy b c w;rw [decide_eq_true H] at this;exact this) k
theorem Zfv {ox oy:Operand} {b c:Bool} (k1:b=c→K (bool true)) (k0:¬ b=c→K (bool false)):AskB .eql 4 ox oy (.bool b) (.bool c) K:=by
 by_cases H:b=c
 ·exact Zfu H (k1 H)
 ·exact useB (fun w=>by have:=Zhq ox oy b c w;rw [decide_eq_false H] at this;exact this) (k0 H)
theorem ZdY {ox oy:Operand} {b c:Bool} (k:∀ d,d=(!decide (b=c))→K (bool d)):AskB .neq 4 ox oy (.bool b) (.bool c) K:=useB (fun w=>Zex ox oy b c w) (k _ rfl)
theorem Zfs {ox oy:Operand} {b c:Bool} (H:b=c) (k:K (bool false)):AskB .neq 4 ox oy (.bool b) (.bool c) K:=useB (fun w=>by have:=Zex ox oy b c w;rw [decide_eq_true H] at this;exact this) k
theorem Zft {ox oy:Operand} {b c:Bool} (k1:b=c→K (bool false)) (k0:¬ b=c→K (bool true)):AskB .neq 4 ox oy (.bool b) (.bool c) K:=by
 by_cases H:b=c
 ·exact Zfs H (k1 H)
 ·exact useB (fun w=>by have:=Zex ox oy b c w;rw [decide_eq_false H] at this;exact this) (k0 H)
end
theorem Zbu {P:Program} {G:World→Prop} {f:FuncId} {args:List AV} {vals:List Value} {r:AV} {x:Value} (h:Spec P G f args r) (hr:pv r=some x) {w:World} {I:Nat→Prop} (hG:G w) (hI:∀ b,I b→b< w.heap.size) (hrel:Rel2 (fun y v=>DenAV w I noBs noMem y v) vals args):
  Calls P f vals.toArray w fun e w'=>e= .returned x∧Below w.heap.size w w':=
 Calls.mono (h.2 w I vals hG hI hrel) fun e w' ⟨y,he,hd,hb⟩=>⟨by rw [he,(Zc8 hr).1 hd],hb⟩
theorem Zf7 {w:World} {I:Nat→Prop} {bs:Bs} {mem:Mem}:∀ {vs:List AV} {l:List Value},pvl vs=some l→Rel2 (fun y v=>DenAV w I bs mem y v) l vs
 | [],l,h=>by simp only [pvl,Option.some.injEq] at h;subst h;exact Rel2.nil
 |v :: vs,l,h=>by
  simp only [pvl] at h
  split at h
  ·rename_i x l' hx hl
   obtain rfl:=(Option.some.inj h).symm
   exact(Zf7 hl).cons ((Zc8 hx).2 rfl)
  ·simp at h
end Go.Proofs.YtpfemjpgbpnpkaaGreatDoor.eng
