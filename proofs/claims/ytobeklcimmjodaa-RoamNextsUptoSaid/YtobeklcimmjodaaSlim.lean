/- The general part of the walks' lemmas, for programs without numbers. Printed by wip/mkslim.py. -/
import Derived.Test.YtobeklcimmjodaaEngT
import Derived.Test.YtobeklcimmjodaaEngRi
namespace Go.Proofs.Ytobeklcimmjodaa.eng
open Go.RowKit mem
section
variable {K : AV → Prop}
def int (n : Int) : AV := .val (.one (.d (.v (.int .i64 n))))
def bool (b : Bool) : AV := .val (.one (.d (.v (.bool b))))
theorem fn_spec {f : FuncId} {fn : Func} {c : Code} {nt : Nat} (hf : Try.prog.funcs[f]? = some fn) (hb : fn.body = some c) (hn : (fn.name == "runtime.NumGoroutine") = false) (hnt : fn.ntmps = nt) {rs : List ResultVar} (hrs : fn.results = ⟨rs⟩)
    (hc : codeOk c = true) {args : List AV} {r : AV} (hargs : freeAVs args = true) (hlen : Nat.ble args.length nt = true)
    (h : sp (prmOf Try.prog nt) c (RetIs (prmOf Try.prog nt) rs r) (envArgs 0 args) noMem) : Spec Try.prog Tab f args r :=
  spec_of (p := prmOf Try.prog nt) hf hb hn hnt rfl rfl hrs tb_ok (fun _ _ _ _ => trivial) mixed hc hargs hlen h
/-- a contract of a function of this program, in what follows -/
abbrev Ask (f : FuncId) (args : List AV) (K : AV → Prop) : Prop := ∃ v, CallR Try.prog Tab f args v ∧ K v
theorem use {f : FuncId} {args : List AV} {r : AV} {K : AV → Prop} (h : Spec Try.prog Tab f args r) (hr : r.hs = []) (k : K r) : Ask f args K := ⟨r, callR_of hr h, k⟩
theorem useN {f : FuncId} {args : List AV} {T n : Nat} {xs : List (List D)} {K : AV → Prop} (h : SpecR Try.prog Tab f args T n xs) (k : K (.new T n xs)) : Ask f args K := ⟨.new T n xs, h, k⟩
theorem fn_new {f : FuncId} {fn : Func} {c : Code} {nt : Nat} (hf : Try.prog.funcs[f]? = some fn) (hb : fn.body = some c) (hn : (fn.name == "runtime.NumGoroutine") = false) (hnt : fn.ntmps = nt) {rs : List ResultVar} (hrs : fn.results = ⟨rs⟩)
    (hc : codeOk c = true) {args : List AV} {T n : Nat} {xs : List (List D)} (hargs : freeAVs args = true) (hlen : Nat.ble args.length nt = true)
    (h : sp (prmOf Try.prog nt) c (RetNew rs T n xs) (envArgs 0 args) noMem) : SpecR Try.prog Tab f args T n xs :=
  spec_new (p := prmOf Try.prog nt) hf hb hn hnt rfl rfl hrs tb_ok (fun _ _ _ _ => trivial) mixed hc hargs hlen h
/-- .. some of the lists that it writes out are rows of its own -/
theorem fn_own (own : List Nat) {f : FuncId} {fn : Func} {c : Code} {nt : Nat} (hf : Try.prog.funcs[f]? = some fn) (hb : fn.body = some c) (hn : (fn.name == "runtime.NumGoroutine") = false) (hnt : fn.ntmps = nt) {rs : List ResultVar} (hrs : fn.results = ⟨rs⟩)
    (hc : codeOk c = true) {args : List AV} {r : AV} (hargs : freeAVs args = true) (hlen : Nat.ble args.length nt = true)
    (h : sp (prmOwn Try.prog nt own) c (RetIs (prmOwn Try.prog nt own) rs r) (envArgs 0 args) noMem) : Spec Try.prog Tab f args r :=
  spec_of (p := prmOwn Try.prog nt own) hf hb hn hnt rfl rfl hrs tb_ok (fun _ _ _ _ => trivial) mixed hc hargs hlen h
theorem fn_nil (own : List Nat) {f : FuncId} {fn : Func} {c : Code} {nt : Nat} (hf : Try.prog.funcs[f]? = some fn) (hb : fn.body = some c) (hn : (fn.name == "runtime.NumGoroutine") = false) (hnt : fn.ntmps = nt) {rs : List ResultVar} (hrs : fn.results = ⟨rs⟩)
    (hc : codeOk c = true) {args : List AV} (hargs : freeAVs args = true) (hlen : Nat.ble args.length nt = true)
    (h : sp (prmOwn Try.prog nt own) c (RetNil rs) (envArgs 0 args) noMem) : Spec Try.prog Tab f args (.val (.one (.d (.v (.slice none 0 0))))) :=
  spec_nil (p := prmOwn Try.prog nt own) hf hb hn hnt rfl rfl hrs tb_ok (fun _ _ _ _ => trivial) mixed hc hargs hlen h
/-- a row is lent to it -/
theorem fn_L (i : Nat) (own : List Nat) {f : FuncId} {fn : Func} {c : Code} {nt : Nat} (hf : Try.prog.funcs[f]? = some fn) (hb : fn.body = some c) (hn : (fn.name == "runtime.NumGoroutine") = false) (hnt : fn.ntmps = nt) {rs : List ResultVar} (hrs : fn.results = ⟨rs⟩)
    (hc : codeOk c = true) {args : List AV} {T n : Nat} {xs : List (List D)} {r : AV} (hargs : argsT args = true) (hlen : Nat.ble args.length nt = true) (hai : args[i]? = some (.val (.one (.row 1000 0))))
    (h : sp (prmL Try.prog nt i own) c (RetL (prmL Try.prog nt i own) rs r i T n xs) (envArgs 0 args) (memT T n xs)) : SpecL Try.prog Tab f args T n xs r :=
  spec_L (p := prmL Try.prog nt i own) hf hb hn hnt rfl rfl hrs tb_ok mixed hc hargs hlen hai h
/-- an equality's result -/
abbrev AskB (op : BinOp) (T : TypeId) (ox oy : Operand) (p q : Value) (K : AV → Prop) : Prop := ∃ r, (∃ v, r = one v ∧ flat v = true ∧ ∀ w, (do eqGuard op T ox oy p q; binOp op T p q : Sem Value).run Try.prog w = .ok v w) ∧ K r
theorem wrap64 (n : Int) (h1 : -9223372036854775808 ≤ n) (h2 : n ≤ 9223372036854775807) : IntKind.i64.wrap n = n := by
  unfold IntKind.wrap
  simp [IntKind.signed, IntKind.bits]
  split <;> omega
theorem beq_t {a b : Int} (h : (a == b) = true) : a = b := eq_of_beq h
theorem beq_f {a b : Int} (h : (a == b) = false) : ¬ a = b := fun e => by rw [e] at h; simp at h
theorem bne_t {a b : Int} (h : (a != b) = true) : ¬ a = b := fun e => by rw [e] at h; simp at h
theorem bne_f {a b : Int} (h : (a != b) = false) : a = b := by simpa using h
theorem not_t {b : Bool} (h : (!b) = true) : b = false := by simpa using h
theorem not_f {b : Bool} (h : (!b) = false) : b = true := by simpa using h
theorem k_ix {xs : List (List D)} {m : Int} {n : Nat} (i : Nat) (cs : List D) (hm : m = (i : Int)) (h : xs[i]? = some cs) (hl : cs.length = n) (k : K (.val (.one (.ref cs)))) :
    ∃ r, (∃ cs, 0 ≤ m ∧ xs[m.toNat]? = some cs ∧ cs.length = n ∧ r = .val (.one (.ref cs))) ∧ K r := ⟨_, ⟨cs, by omega, by rw [hm, Int.toNat_natCast]; exact h, hl, rfl⟩, k⟩
theorem k_drop {xs : List (List D)} {m : Int} {n : Nat} (i : Nat) (ys : List (List D)) (hi : i ≤ xs.length) (hm : m = (i : Int)) (hr : ∀ row, row ∈ xs → row.length = n) (hy : xs.drop i = ys) (k : K (.val (.one (.d (.list ys))))) :
    ∃ r, (0 ≤ m ∧ m ≤ (xs.length : Int) ∧ (∀ row, row ∈ xs → row.length = n) ∧ r = .val (.one (.d (.list (xs.drop m.toNat))))) ∧ K r := ⟨_, ⟨by omega, by omega, hr, rfl⟩, by rw [hm, Int.toNat_natCast, hy]; exact k⟩
theorem k_take {xs : List (List D)} {m : Int} {n : Nat} (i : Nat) (ys : List (List D)) (hi : i ≤ xs.length) (hm : m = (i : Int)) (hr : ∀ row, row ∈ xs → row.length = n) (hy : xs.take i = ys) (k : K (.val (.one (.d (.list ys))))) :
    ∃ r, (0 ≤ m ∧ m ≤ (xs.length : Int) ∧ (∀ row, row ∈ xs → row.length = n) ∧ r = .val (.one (.d (.list (xs.take m.toNat))))) ∧ K r := ⟨_, ⟨by omega, by omega, hr, rfl⟩, by rw [hm, Int.toNat_natCast, hy]; exact k⟩
theorem map_at {α : Type} {f : α → List D} {l : List α} {i : Nat} {x : α} (h : l[i]? = some x) : (List.map f l)[i]? = some (f x) := by rw [List.getElem?_map, h]; rfl
theorem map_rows {α : Type} {f : α → List D} {l : List α} {n : Nat} (h : ∀ x, (f x).length = n) : ∀ row, row ∈ List.map f l → row.length = n := fun row hr => by
  obtain ⟨x, _, rfl⟩ := List.mem_map.1 hr; exact h x
theorem map_snoc {α : Type} {f : α → List D} {l : List α} {i : Nat} {x : α} (h : l[i]? = some x) : List.map f (l.take (i + 1)) = List.map f (l.take i) ++ [f x] := by
  rw [List.take_add_one, h]; simp
theorem row1 {r : List D} {n : Nat} (h : r.length = n) : ∀ row, row ∈ [r] → row.length = n := fun row hr => by rw [List.mem_singleton.1 hr]; exact h
theorem rown {l : List (List D)} {n : Nat} (h : l.all (fun r => Nat.beq r.length n) = true) : ∀ row, row ∈ l → row.length = n := fun row hr => Nat.eq_of_beq_eq_true (List.all_eq_true.1 h row hr)
theorem get_ex {α : Type} {l : List α} {i : Nat} (h : i < l.length) {G : Prop} (k : ∀ x, l[i]? = some x → G) : G := k _ (List.getElem?_eq_getElem h)
theorem k_at_own {xs : List (List D)} {m : Int} {o v n : Nat} (i : Nat) (hm : m = (i : Int)) (h : i < xs.length) (k : K (.val (.one (.rp o v n i 0)))) :
    ∃ r, (0 ≤ m ∧ m < (xs.length : Int) ∧ r = .val (.one (.rp o v n m.toNat 0))) ∧ K r := ⟨_, ⟨by omega, by omega, rfl⟩, by subst hm; exact k⟩
theorem k_at_own' {K : AV → Prop} {xs : List (List D)} {m : Int} {o v n : Nat} (i : Nat) (hm : m = (i : Int)) (h : i < xs.length) (k : K (.val (.one (.rp o v n i 0)))) :
    ∃ r, (0 ≤ m ∧ m < (xs.length : Int) ∧ r = .val (.one (.rp o v n m.toNat 0))) ∧ K r := ⟨_, ⟨by omega, by omega, rfl⟩, by subst hm; exact k⟩
theorem k_ldo {K : AV → Prop} {ty : Ty} {xs : List (List D)} {i n off : Nat} (ds : List D) (r : AV) (h : xs[i]? = some ds) (hl : ds.length = n) (hp : planIs (planCells ty (((ds.drop off).take ty.size).map .d)) r) (k : K r) :
    ∃ r, (∃ ds, xs[i]? = some ds ∧ ds.length = n ∧ planIs (planCells ty (((ds.drop off).take ty.size).map .d)) r) ∧ K r := ⟨r, ⟨ds, h, hl, hp⟩, k⟩
/-- of a function that holds loops over iterators -/
noncomputable def prmM (P : Program) (n : Nat) : Prm := { prmOf P n with nt := ⟨n, [], true⟩ }
theorem fn_R {f : FuncId} {fn : Func} {c : Code} {nt : Nat} (hf : Try.prog.funcs[f]? = some fn) (hb : fn.body = some c) (hn : (fn.name == "runtime.NumGoroutine") = false) (hnt : fn.ntmps = nt) {rs : List ResultVar} (hrs : fn.results = ⟨rs⟩)
    (hc : codeOk c = true) {args : List AV} {r : AV} (hargs : freeAVs args = true) (hlen : Nat.ble args.length nt = true)
    (h : spR (prmM Try.prog nt) c (RetIs (prmM Try.prog nt) rs r) (envArgs 0 args) noMem) : Spec Try.prog Tab f args r :=
  spec_R (p := prmM Try.prog nt) hf hb hn hnt rfl rfl hrs tb_ok (fun _ _ _ _ => trivial) mixed hc hargs hlen h
theorem fn_Y (yl : List Nat) {f : FuncId} {fn : Func} {c : Code} {nt : Nat} (hf : Try.prog.funcs[f]? = some fn) (hb : fn.body = some c) (hn : (fn.name == "runtime.NumGoroutine") = false) (hnt : fn.ntmps = nt) (hrs : fn.results = ⟨[]⟩)
    (hc : codeOk c = true) {caps elems : List (List D)} (hlen : Nat.ble (caps.length + 1) nt = true)
    (h : ∀ l, spY (prmOf Try.prog nt) yl l elems c (EndY elems) (some 0) (envArgs 0 (.val (.one (.d (.v (.func (.yield l) #[] #[])))) :: caps.map fun cs => .val (.one (.ref cs)))) noMem) : SeqSpec Try.prog Tab f caps elems :=
  seqSpec_of (p := prmOf Try.prog nt) yl hf hb hn hnt rfl rfl hrs tb_ok mixed hc hlen h
theorem fn_YO (own yl : List Nat) {f : FuncId} {fn : Func} {c : Code} {nt : Nat} (hf : Try.prog.funcs[f]? = some fn) (hb : fn.body = some c) (hn : (fn.name == "runtime.NumGoroutine") = false) (hnt : fn.ntmps = nt) (hrs : fn.results = ⟨[]⟩)
    (hc : codeOk c = true) {caps elems : List (List D)} (hlen : Nat.ble (caps.length + 1) nt = true)
    (h : ∀ l, spY (prmOwn Try.prog nt own) yl l elems c (EndY elems) (some 0) (envArgs 0 (.val (.one (.d (.v (.func (.yield l) #[] #[])))) :: caps.map fun cs => .val (.one (.ref cs)))) noMem) : SeqSpec Try.prog Tab f caps elems :=
  seqSpec_of (p := prmOwn Try.prog nt own) yl hf hb hn hnt rfl rfl hrs tb_ok mixed hc hlen h
theorem ps_okB {ps E : List Nat} {n : Nat} (h : (ps.all fun q => Nat.blt q n && !memb q E) = true) : ∀ q, q ∈ ps → q < n ∧ q ∉ E := by
  intro q hq
  have h1 := List.all_eq_true.1 h q hq
  simp only [Bool.and_eq_true, Bool.not_eq_true'] at h1
  refine ⟨of_decide_eq_true (by simpa [Nat.blt_eq] using h1.1), fun hm => ?_⟩
  rw [memb_iff.2 hm] at h1
  simp at h1
end
end Go.Proofs.Ytobeklcimmjodaa.eng
