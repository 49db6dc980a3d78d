/- The engine at this program: how a function's walk begins, goes over a call of package rat, and ends. -/
import Derived.Test.YtiekmbmgpachpaaGreatDoorEngS
namespace Go.Proofs.YtiekmbmgpachpaaGreatDoor.eng
open Go.RowKit num mem seg q held ratA ratB ratC ratD ratE vars ratF
theorem Zd {f : FuncId} {fn : Func} {c : Code} {nt : Nat} (hf : Tryz.prog.funcs[f]? = some fn) (hb : fn.body = some c) (hn : (fn.name == "runtime.NumGoroutine") = false) (hnt : fn.ntmps = nt) {rs : List ResultVar} (hrs : fn.results = ⟨rs⟩)
  (hc:codeOk c=true) {args:List AV} {r:AV} (hargs:freeAVs args=true) (hlen:Nat.ble args.length nt=true)
  (h:sp (prmOf Tryz.prog nt) c (RetIs (prmOf Tryz.prog nt) rs r) (envArgs 0 args) noMem):Spec Tryz.prog Tab f args r:=
 Zen (p:=prmOf Tryz.prog nt) hf hb hn hnt rfl rfl hrs Zgj (fun _ _ h hb=>h.below hb (Nat.le_refl _)) mixed hc hargs hlen h
abbrev Ask (f:FuncId) (args:List AV) (K:AV→Prop):Prop:=∃ v,CallR Tryz.prog Tab f args v∧K v
theorem use {f:FuncId} {args:List AV} {r:AV} {K:AV→Prop} (h:Spec Tryz.prog Tab f args r) (hr:r.hs= []) (k:K r):Ask f args K:=⟨r,Znv hr h,k⟩
theorem useN {f:FuncId} {args:List AV} {T n:Nat} {xs:List (List D)} {K:AV→Prop} (h:SpecR Tryz.prog Tab f args T n xs) (k:K (.new T n xs)):Ask f args K:=⟨.new T n xs,h,k⟩
theorem ZlE {f : FuncId} {fn : Func} {c : Code} {nt : Nat} (hf : Tryz.prog.funcs[f]? = some fn) (hb : fn.body = some c) (hn : (fn.name == "runtime.NumGoroutine") = false) (hnt : fn.ntmps = nt) {rs : List ResultVar} (hrs : fn.results = ⟨rs⟩)
  (hc:codeOk c=true) {args:List AV} {T n:Nat} {xs:List (List D)} (hargs:freeAVs args=true) (hlen:Nat.ble args.length nt=true)
  (h:sp (prmOf Tryz.prog nt) c (RetNew rs T n xs) (envArgs 0 args) noMem):SpecR Tryz.prog Tab f args T n xs:=
 Zhy (p:=prmOf Tryz.prog nt) hf hb hn hnt rfl rfl hrs Zgj (fun _ _ h hb=>h.below hb (Nat.le_refl _)) mixed hc hargs hlen h
theorem Zcw (own : List Nat) {f : FuncId} {fn : Func} {c : Code} {nt : Nat} (hf : Tryz.prog.funcs[f]? = some fn) (hb : fn.body = some c) (hn : (fn.name == "runtime.NumGoroutine") = false) (hnt : fn.ntmps = nt) {rs : List ResultVar} (hrs : fn.results = ⟨rs⟩)
  (hc:codeOk c=true) {args:List AV} {r:AV} (hargs:freeAVs args=true) (hlen:Nat.ble args.length nt=true)
  (h:sp (prmOwn Tryz.prog nt own) c (RetIs (prmOwn Tryz.prog nt own) rs r) (envArgs 0 args) noMem):Spec Tryz.prog Tab f args r:=
 Zen (p:=prmOwn Tryz.prog nt own) hf hb hn hnt rfl rfl hrs Zgj (fun _ _ h hb=>h.below hb (Nat.le_refl _)) mixed hc hargs hlen h
theorem fn_T (own : List Nat) {f : FuncId} {fn : Func} {c : Code} {nt : Nat} (hf : Tryz.prog.funcs[f]? = some fn) (hb : fn.body = some c) (hn : (fn.name == "runtime.NumGoroutine") = false) (hnt : fn.ntmps = nt) {rs : List ResultVar} (hrs : fn.results = ⟨rs⟩)
  (hc:codeOk c=true) {args:List AV} {T n:Nat} {xs:List (List D)} {T' n':Nat} {ys:List (List D)} (hargs:argsT args=true) (hlen:Nat.ble args.length nt=true)
  (h:sp (prmOwn Tryz.prog nt own) c (RetNew rs T' n' ys) (envArgs 0 args) (memT T n xs)):SpecT Tryz.prog Tab f args T n xs T' n' ys:=
 ZpX (p:=prmOwn Tryz.prog nt own) hf hb hn hnt rfl rfl hrs Zgj mixed hc hargs hlen h
theorem fn_L (i : Nat) (own : List Nat) {f : FuncId} {fn : Func} {c : Code} {nt : Nat} (hf : Tryz.prog.funcs[f]? = some fn) (hb : fn.body = some c) (hn : (fn.name == "runtime.NumGoroutine") = false) (hnt : fn.ntmps = nt) {rs : List ResultVar} (hrs : fn.results = ⟨rs⟩)
  (hc:codeOk c=true) {args:List AV} {T n:Nat} {xs:List (List D)} {r:AV} (hargs:argsT args=true) (hlen:Nat.ble args.length nt=true) (hai:args[i]? =some (.val (.one (.row 1000 0))))
  (h:sp (prmL Tryz.prog nt i own) c (RetL (prmL Tryz.prog nt i own) rs r i T n xs) (envArgs 0 args) (memT T n xs)):SpecL Tryz.prog Tab f args T n xs r:=
 ZpY (p:=prmL Tryz.prog nt i own) hf hb hn hnt rfl rfl hrs Zgj mixed hc hargs hlen hai h
theorem fn_V (i : Nat) (own : List Nat) {f : FuncId} {fn : Func} {c : Code} {nt : Nat} (hf : Tryz.prog.funcs[f]? = some fn) (hb : fn.body = some c) (hn : (fn.name == "runtime.NumGoroutine") = false) (hnt : fn.ntmps = nt) {rs : List ResultVar} (hrs : fn.results = ⟨rs⟩)
  (hc:codeOk c=true) {args:List AV} {T:Nat} {cs ds:List D} {r:AV} (hargs:argsT args=true) (hlen:Nat.ble args.length nt=true) (hai:args[i]? =some (.val (.one (.ptr 1000 0))))
  (h:sp (prmL Tryz.prog nt i own) c (RetV (prmL Tryz.prog nt i own) rs r i T ds) (envArgs 0 args) (memV T cs)):SpecV Tryz.prog Tab f args T cs r ds:=
 ZpW (p:=prmL Tryz.prog nt i own) hf hb hn hnt rfl rfl hrs Zgj mixed hc hargs hlen hai h
theorem RV.z1 (x:RV):qs x.q≤x.z+1:=by have:=x.qs_le;omega
section
variable {x y : RV} {K : AV → Prop}
theorem Zcj (hx:x.z≤4398046511104) (hy:y.z≤4398046511104) (k:∀ q,q=x.q+y.q→(cn q).z≤x.z+y.z+3→K (rat (cn q))):Ask 43 [rat x,rat y] K:=
 use (ZkB x y hx hy) rfl (k _ rfl (by have:=Z8 x.q y.q;have:=x.z1;have:=y.z1;rw [cn_z];omega))
theorem Zjk (hx:x.z≤4398046511104) (hy:y.z≤4398046511104) (k:∀ q,q=x.q - y.q→(cn q).z≤x.z+y.z+3→K (rat (cn q))):Ask 45 [rat x,rat y] K:=
 use (Zkt x y hx hy) rfl (k _ rfl (by have:=Zby x.q y.q;have:=x.z1;have:=y.z1;rw [cn_z];omega))
theorem ZaL (hx:x.z≤4398046511104) (hy:y.z≤4398046511104) (k:∀ q,q=x.q*y.q→(cn q).z≤x.z+y.z+2→K (rat (cn q))):Ask 44 [rat x,rat y] K:=
 use (Zkw x y hx hy) rfl (k _ rfl (by have:=ZT x.q y.q;have:=x.z1;have:=y.z1;rw [cn_z];omega))
theorem ZdG (hx:x.z≤4398046511104) (k:∀ q,q=-x.q→(cn q).z≤x.z+1→K (rat (cn q))):Ask 74 [rat x] K:=
 use (Zkv x hx) rfl (k _ rfl (by have:=Zfs x.q;have:=x.z1;rw [cn_z];omega))
theorem k_of (n:Int) (h1:-9223372036854775808≤n) (h2:n≤9223372036854775807) (k:∀ q,q=(n:Rat)→(cn q).z≤8→K (rat (cn q))):Ask 31 [int n] K:=
 use (ZmL n h1 h2) rfl (k _ rfl (by have:=Zat h1 h2;rw [cn_z];omega))
theorem Zbz (hx:x.z≤4398046511104) (k:∀ q,q=x.q→(cn q).z≤x.z+1→K (rat (cn q))):Ask 8 [rat x,rat x] K:=
 use (by have:=Zfq x x hx hx;rwa [ite_self] at this) rfl (k _ rfl (by have:=x.z1;rw [cn_z];omega))
theorem ZiA (p q:Rat):cmpQ p q≤0↔p≤q:=by
 unfold cmpQ
 by_cases h1:p< q
 ·rw [if_pos h1];exact⟨fun _=>Rat.le_of_lt h1,fun _=>by omega⟩
 ·rw [if_neg h1]
  by_cases h2:q< p
  ·rw [if_pos h2];exact⟨fun h=>by omega,fun h=>absurd h2 (Rat.not_lt.2 h)⟩
  ·rw [if_neg h2];exact⟨fun _=>Rat.not_lt.1 h2,fun _=>Int.le_refl _⟩
theorem Zq5 (p q:Rat):0≤cmpQ p q↔q≤p:=by
 unfold cmpQ
 by_cases h1:p< q
 ·rw [if_pos h1];exact⟨fun h=>by omega,fun h=>absurd h1 (Rat.not_lt.2 h)⟩
 ·rw [if_neg h1]
  by_cases h2:q< p
  ·rw [if_pos h2];exact⟨fun _=>Rat.le_of_lt h2,fun _=>by omega⟩
  ·rw [if_neg h2];exact⟨fun _=>Rat.not_lt.1 h1,fun _=>Int.le_refl _⟩
theorem Zco (p q:Rat):0< cmpQ p q↔q< p:=by
 have:=ZiA p q
 rw [← Rat.not_le,← this];omega
def minQ (p q:Rat):Rat:=if p≤q then p else q
def maxQ (p q:Rat):Rat:=if q≤p then p else q
theorem ZqC (hx:x.z≤4398046511104) (hy:y.z≤4398046511104) (k:∀ q,q=minQ x.q y.q→(cn q).z≤x.z+y.z+1→K (rat (cn q))):Ask 8 [rat x,rat y] K:=
 use (by have:=Zfq x y hx hy;simp only [ZiA] at this;exact this) rfl (k _ rfl (by have:=x.z1;have:=y.z1;rw [cn_z];unfold minQ;split<;>omega))
theorem ZqE (hx:x.z≤4398046511104) (hy:y.z≤4398046511104) (k:∀ q,q=maxQ x.q y.q→(cn q).z≤x.z+y.z+1→K (rat (cn q))):Ask 9 [rat x,rat y] K:=
 use (by have:=Zkx x y hx hy;simp only [Zq5] at this;exact this) rfl (k _ rfl (by have:=x.z1;have:=y.z1;rw [cn_z];unfold maxQ;split<;>omega))
theorem Zbu (hx:x.z≤4398046511104) (hy:y.z≤4398046511104) (k:∀ n,n=cmpQ x.q y.q→K (int n)):Ask 40 [rat x,rat y] K:=
 use (ZkA x y hx hy) rfl (k _ rfl)
theorem Zdc (hx:x.z≤4398046511104) (k:∀ n,n=sgnQ x.q→K (int n)):Ask 103 [rat x] K:=
 use (Zi2 x hx) rfl (k _ rfl)
theorem Zn9 (hx:x.z≤4398046511104) (k:∀ b,b=decide x.good→K (bool b)):Ask 85 [rat x] K:=
 use (Zi4 x hx) rfl (k _ rfl)
theorem Zjl (hx:x.z≤4398046511104) (hy:y.z≤4398046511104) (h0:y.q≠0) (k:∀ q,q=x.q / y.q→(cn q).z≤x.z+y.z+3→K (two (rat (cn q)) (int 0))):Ask 61 [rat x,rat y] K:=
 use (by have:=Zkz x y hx hy;simp only [quotR,quotE,if_neg h0] at this;exact this) rfl (k _ rfl (by have:=ZcZ x.q y.q;have:=x.z1;have:=y.z1;rw [cn_z];omega))
theorem Zh8 (hx:x.z≤4398046511104) (k1:x.good→K (bool true)) (k0:¬ x.good→K (bool false)):Ask 85 [rat x] K:=by
 by_cases h:x.good
 ·exact Zn9 hx fun b hb=>by rw [hb,decide_eq_true h];exact k1 h
 ·exact Zn9 hx fun b hb=>by rw [hb,decide_eq_false h];exact k0 h
theorem ZqH (hx:x.z≤4398046511104) (hy:y.z≤4398046511104) (k1:x.q< y.q→K (int (-1))) (k2:x.q=y.q→K (int 0)) (k3:y.q< x.q→K (int 1)):Ask 40 [rat x,rat y] K:=by
 refine Zbu hx hy fun n hn=> ?_
 unfold cmpQ at hn
 by_cases h1:x.q< y.q
 ·rw [if_pos h1] at hn;rw [hn];exact k1 h1
 ·rw [if_neg h1] at hn
  by_cases h2:y.q< x.q
  ·rw [if_pos h2] at hn;rw [hn];exact k3 h2
  ·rw [if_neg h2] at hn;rw [hn];exact k2 (Rat.le_antisymm (Rat.not_lt.1 h2) (Rat.not_lt.1 h1))
theorem ZgE (q:Rat):q.num< 0↔q< 0:=by
 rw [← Rat.not_le,← Rat.num_nonneg];omega
theorem Zes (q:Rat):q.num=0↔q=0:=Rat.num_eq_zero
theorem Zmu (q:Rat):0< sgnQ q↔0< q:=by
 unfold sgnQ
 by_cases h1:q.num=0
 ·rw [if_pos h1];have:=(Zes _).1 h1;subst this;exact⟨fun h=>by omega,fun h=>absurd h (Rat.lt_irrefl)⟩
 ·rw [if_neg h1]
  by_cases h2:q.num< 0
  ·rw [if_pos h2];exact⟨fun h=>by omega,fun h=>absurd h (Rat.not_lt.2 (Rat.le_of_lt ((ZgE _).1 h2)))⟩
  ·rw [if_neg h2]
   refine⟨fun _=>Rat.not_le.1 fun h=> ?_,fun _=>by omega⟩
   rcases Rat.le_iff_lt_or_eq.1 h with h|h
   ·exact h2 ((ZgE _).2 h)
   ·exact h1 ((Zes _).2 h)
abbrev AskB (op:BinOp) (T:TypeId) (ox oy:Operand) (p q:Value) (K:AV→Prop):Prop:=∃ r,(∃ v,r=one v∧flat v=true∧∀ w,(do eqGuard op T ox oy p q;binOp op T p q:Sem Value).run Tryz.prog w= .ok v w)∧K r
theorem useB {op:BinOp} {T:TypeId} {ox oy:Operand} {p q:Value} {K:AV→Prop} {b:Bool} (h:∀ w,(do eqGuard op T ox oy p q;binOp op T p q:Sem Value).run Tryz.prog w= .ok (.bool b) w) (k:K (bool b)):AskB op T ox oy p q K:=
 ⟨_,⟨.bool b,rfl,rfl,h⟩,k⟩
theorem Zg1 {ox oy:Operand} {x:RV} {y:RV} (H:x=y) (k:K (bool true)):AskB .eql 27 ox oy (.agg ⟨[.bool x.s,.string x.a,.string x.d]⟩) (.agg ⟨[.bool y.s,.string y.a,.string y.d]⟩) K:=useB (fun w=>by have:=Zpl ox oy x y w;rw [decide_eq_true H] at this;exact this) k
theorem ZfS {ox oy:Operand} {n:Int} {n2:Int} {n':Int} {n2':Int} (H:n=n'∧n2=n2') (k:K (bool true)):AskB .eql 69 ox oy (.agg ⟨[.int .i64 n,.int .i64 n2]⟩) (.agg ⟨[.int .i64 n',.int .i64 n2']⟩) K:=useB (fun w=>by have:=Zio ox oy n n2 n' n2' w;rw [decide_eq_true H] at this;exact this) k
theorem Zcv {ox oy:Operand} {n:Int} {n2:Int} {n':Int} {n2':Int} (k1:n=n'∧n2=n2'→K (bool true)) (k0:¬ (n=n'∧n2=n2')→K (bool false)):AskB .eql 69 ox oy (.agg ⟨[.int .i64 n,.int .i64 n2]⟩) (.agg ⟨[.int .i64 n',.int .i64 n2']⟩) K:=by
 by_cases H:n=n'∧n2=n2'
 ·exact ZfS H (k1 H)
 ·exact useB (fun w=>by have:=Zio ox oy n n2 n' n2' w;rw [decide_eq_false H] at this;exact this) (k0 H)
theorem ZfQ {ox oy:Operand} {n:Int} {n2:Int} {n':Int} {n2':Int} (H:n=n'∧n2=n2') (k:K (bool false)):AskB .neq 69 ox oy (.agg ⟨[.int .i64 n,.int .i64 n2]⟩) (.agg ⟨[.int .i64 n',.int .i64 n2']⟩) K:=useB (fun w=>by have:=ZhR ox oy n n2 n' n2' w;rw [decide_eq_true H] at this;exact this) k
theorem ZfR {ox oy:Operand} {n:Int} {n2:Int} {n':Int} {n2':Int} (k1:n=n'∧n2=n2'→K (bool false)) (k0:¬ (n=n'∧n2=n2')→K (bool true)):AskB .neq 69 ox oy (.agg ⟨[.int .i64 n,.int .i64 n2]⟩) (.agg ⟨[.int .i64 n',.int .i64 n2']⟩) K:=by
 by_cases H:n=n'∧n2=n2'
 ·exact ZfQ H (k1 H)
 ·exact useB (fun w=>by have:=ZhR ox oy n n2 n' n2' w;rw [decide_eq_false H] at this;exact this) (k0 H)
end
theorem ZeV {P:Program} {G:World→Prop} {f:FuncId} {args:List AV} {vals:List Value} {r:AV} {x:Value} (h:Spec P G f args r) (hr:pv r=some x) {w:World} (hG:G w) (hrel:Rel2 (fun y v=>DenAV w (fun _=>False) noBs noMem y v) vals args):
  Calls P f vals.toArray w fun e w'=>e= .returned x∧Below w.heap.size w w':=
 Calls.mono (h.2 w (fun _=>False) vals hG (fun b hb=>hb.elim) hrel) fun e w' ⟨y,he,hd,hb⟩=>⟨by rw [he,(Zft hr).1 hd],hb⟩
theorem ZdI {P:Program} {G:World→Prop} {f:FuncId} {args:List AV} {vals:List Value} {r:AV} {x:Value} (h:Spec P G f args r) (hr:pv r=some x) {w:World} {I:Nat→Prop} (hG:G w) (hI:∀ b,I b→b< w.heap.size) (hrel:Rel2 (fun y v=>DenAV w I noBs noMem y v) vals args):
  Calls P f vals.toArray w fun e w'=>e= .returned x∧Below w.heap.size w w':=
 Calls.mono (h.2 w I vals hG hI hrel) fun e w' ⟨y,he,hd,hb⟩=>⟨by rw [he,(Zft hr).1 hd],hb⟩
theorem ZgJ {w:World} {I:Nat→Prop} {bs:Bs} {mem:Mem}:∀ {vs:List AV} {l:List Value},pvl vs=some l→Rel2 (fun y v=>DenAV w I bs mem y v) l vs
 | [],l,h=>by simp only [pvl,Option.some.injEq] at h;subst h;exact Rel2.nil
 |v :: vs,l,h=>by
  simp only [pvl] at h
  split at h
  ·rename_i x l' hx hl
   obtain rfl:=(Option.some.inj h).symm
   exact(ZgJ hl).cons ((Zft hx).2 rfl)
  ·simp at h
end Go.Proofs.YtiekmbmgpachpaaGreatDoor.eng
