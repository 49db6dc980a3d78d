/- The engine at this program: how a function's walk begins, goes over a call of package rat, and ends. -/
import Derived.Test.YtpfemjpgbpnpkaaDoorEngS
namespace Go.Proofs.YtpfemjpgbpnpkaaDoor.eng
open Go.RowKit num mem seg q held ratA ratB ratC ratD ratE vars ratF
theorem Zap {f : FuncId} {fn : Func} {c : Code} {nt : Nat} (hf : Tryd.prog.funcs[f]? = some fn) (hb : fn.body = some c) (hn : (fn.name == "runtime.NumGoroutine") = false) (hnt : fn.ntmps = nt) {rs : List ResultVar} (hrs : fn.results = ⟨rs⟩)
  (hc:codeOk c=true) {args:List AV} {r:AV} (hargs:freeAVs args=true) (hlen:Nat.ble args.length nt=true)
  (h:sp (prmOf Tryd.prog nt) c (RetIs (prmOf Tryd.prog nt) rs r) (envArgs 0 args) noMem):Spec Tryd.prog Tab f args r:=
 ZeE (p:=prmOf Tryd.prog nt) hf hb hn hnt hrs Zjy (fun _ _ h hb=>h.below hb (Nat.le_refl _)) mixed hc hargs hlen h
abbrev Ask (f:FuncId) (args:List AV) (K:AV→Prop):Prop:=∃ v,CallR Tryd.prog Tab f args v∧K v
theorem use {f:FuncId} {args:List AV} {r:AV} {K:AV→Prop} (h:Spec Tryd.prog Tab f args r) (hr:r.hs= []) (k:K r):Ask f args K:=⟨r,Ziq hr h,k⟩
theorem strcat {T:TypeId} {x y:Operand} {a b:ByteArray} (h:a.size+b.size≤9223372036854775807) (w:World):(do eqGuard .add T x y (.string a) (.string b);binOp .add T (.string a) (.string b):Sem Value).run Tryd.prog w= .ok (.string (a++b)) w:=by
 have h':(a.size:Int)+(b.size:Int)≤9223372036854775807:=by omega
 simp [eqGuard,binOp,Op.stringOp,h']
theorem RV.z1 (x:RV):qs x.q≤x.z+1:=by have:=x.qs_le;omega
section
variable {x y : RV} {K : AV → Prop}
abbrev AskB (op:BinOp) (T:TypeId) (ox oy:Operand) (p q:Value) (K:AV→Prop):Prop:=∃ r,(∃ v,r=one v∧flat v=true∧∀ w,(do eqGuard op T ox oy p q;binOp op T p q:Sem Value).run Tryd.prog w= .ok v w)∧K r
theorem useB {op:BinOp} {T:TypeId} {ox oy:Operand} {p q:Value} {K:AV→Prop} {b:Bool} (h:∀ w,(do eqGuard op T ox oy p q;binOp op T p q:Sem Value).run Tryd.prog w= .ok (.bool b) w) (k:K (bool b)):AskB op T ox oy p q K:=
 ⟨_,⟨.bool b,rfl,rfl,h⟩,k⟩
theorem ZaC {ox oy:Operand} {x:RV} {y:RV} (H:x=y) (k:K (bool true)):AskB .eql 23 ox oy (.agg ⟨[.bool x.s,.string x.a,.string x.d]⟩) (.agg ⟨[.bool y.s,.string y.a,.string y.d]⟩) K:=useB (fun w=>by have:=Zi3 ox oy x y w;rw [decide_eq_true H] at this;exact this) k
end
theorem ZcH {P:Program} {G:World→Prop} {f:FuncId} {args:List AV} {vals:List Value} {r:AV} {x:Value} (h:Spec P G f args r) (hr:pv r=some x) {w:World} {I:Nat→Prop} (hG:G w) (hI:∀ b,I b→b< w.heap.size) (hrel:Rel2 (fun y v=>DenAV w I noBs noMem y v) vals args):
  Calls P f vals.toArray w fun e w'=>e= .returned x∧Below w.heap.size w w':=
 Calls.mono (h.2 w I vals hG hI hrel) fun e w' ⟨y,he,hd,hb⟩=>⟨by rw [he,(ZcW hr).1 hd],hb⟩
theorem ZgM {w:World} {I:Nat→Prop} {bs:Bs} {mem:Mem}:∀ {vs:List AV} {l:List Value},pvl vs=some l→Rel2 (fun y v=>DenAV w I bs mem y v) l vs
 | [],l,h=>by simp only [pvl,Option.some.injEq] at h;subst h;exact Rel2.nil
 |v :: vs,l,h=>by
  simp only [pvl] at h
  split at h
  ·rename_i x l' hx hl
   obtain rfl:=(Option.some.inj h).symm
   exact(ZgM hl).cons ((ZcW hx).2 rfl)
  ·simp at h
end Go.Proofs.YtpfemjpgbpnpkaaDoor.eng
