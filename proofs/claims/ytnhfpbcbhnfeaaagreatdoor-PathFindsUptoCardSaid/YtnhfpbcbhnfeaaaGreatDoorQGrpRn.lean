/- Joined by wip/bundle.py: XRng XRng2. -/
import Derived.Test.YtnhfpbcbhnfeaaaGreatDoorQGrpEn
import Derived.Test.YtnhfpbcbhnfeaaaGreatDoorQGrpEg
namespace Go.Proofs.YtnhfpbcbhnfeaaaGreatDoor.eng
open Go.RowKit num mem seg
theorem fn_Y(yl : List Nat){f : FuncId}{fn : Func}{c : Code}{nt : Nat}(hf : Tryz.prog.funcs[f]? = some fn)(hb : fn.body = some c)(hn : (fn.name == "runtime.NumGoroutine") = false)(hnt : fn.ntmps = nt)(hrs : fn.results = ⟨[]⟩)
 (hc:codeOk c=true){caps elems:List (List D)}(hlen:Nat.ble (caps.length+1) nt=true)
 (h:∀l,spY (prmOf Tryz.prog nt) yl l elems c (EndY elems) (some 0) (envArgs 0 (.val (.one (.d (.v (.func (.yield l) #[] #[]))))::caps.map fun cs=>.val (.one (.ref cs)))) noMem):SeqSpec Tryz.prog Tab f caps elems:=
 Zmx (p:=prmOf Tryz.prog nt) yl hf hb hn hnt rfl rfl hrs Zji mixed hc hlen h
theorem Zu4{ps E:List Nat}{n:Nat}(h:(ps.all fun q=>Nat.blt q n&& !memb q E)=true):∀q,q∈ps->q<n/\q ∉ E:=by
 intro q hq;have h1:=List.all_eq_true.1 h q hq;simp only[Bool.and_eq_true,Bool.not_eq_true']at h1;refine⟨oT (by simpa[Nat.blt_eq]using h1.1),fun hm=>?_⟩;rw[Zbf.2 hm]at h1;simp at h1
noncomputable def prmMO(P:Program)(n:Nat)(own:List Nat):Prm:={ prmOwn P n own with nt:=⟨n, [],true⟩ }
noncomputable def prmML(P:Program)(n i:Nat)(own:List Nat):Prm:={ prmL P n i own with nt:=⟨n, [i],true⟩ }
theorem ZzX(own : List Nat){f : FuncId}{fn : Func}{c : Code}{nt : Nat}(hf : Tryz.prog.funcs[f]? = some fn)(hb : fn.body = some c)(hn : (fn.name == "runtime.NumGoroutine") = false)(hnt : fn.ntmps = nt){rs : List ResultVar}(hrs : fn.results = ⟨rs⟩)
 (hc:codeOk c=true){args:List AV}{r:AV}(hargs:freeAVs args=true)(hlen:Nat.ble args.length nt=true)
 (h:spR (prmMO Tryz.prog nt own) c (RetIs (prmMO Tryz.prog nt own) rs r) (envArgs 0 args) noMem):Spec Tryz.prog Tab f args r:=
 ZxY (p:=prmMO Tryz.prog nt own) hf hb hn hnt rfl rfl hrs Zji (fun _ _ h hb=>h.below hb (Nat.le_refl _)) mixed hc hargs hlen h
theorem ZzW(i : Nat)(own : List Nat){f : FuncId}{fn : Func}{c : Code}{nt : Nat}(hf : Tryz.prog.funcs[f]? = some fn)(hb : fn.body = some c)(hn : (fn.name == "runtime.NumGoroutine") = false)(hnt : fn.ntmps = nt){rs : List ResultVar}(hrs : fn.results = ⟨rs⟩)
 (hc:codeOk c=true){args:List AV}{T:Nat}{cs ds:List D}{r:AV}(hargs:argsT args=true)(hlen:Nat.ble args.length nt=true)(hai:args[i]? =some (.val (.one (.ptr 1000 0))))
 (h:spR (prmML Tryz.prog nt i own) c (RetV (prmML Tryz.prog nt i own) rs r i T ds) (envArgs 0 args) (memV T cs)):SpecV Tryz.prog Tab f args T cs r ds:=
 ZvX (p:=prmML Tryz.prog nt i own) hf hb hn hnt rfl rfl hrs Zji mixed hc hargs hlen hai h
