/- The engine, no program: code by data. A state of a call is given by data (variables, rows, lists that stay); sp reckons what a piece of code does to it; spec_of: a function whose code does so keeps its contract. Joined by wip/merge_eng.py. -/
import Derived.Test.YtobeklcimmjodaaEng
import Derived.CallsIn
import Derived.RangeFuncLeaves
import Derived.RangeFuncCalls
import Derived.RangeFuncRecord
import Derived.Sort.LoopGhostIn
import Derived.OrdersIn
import Derived.TacticsIn
namespace Go.Proofs.Ytobeklcimmjodaa.eng
open Go.RowKit mem

/-! The engine, part Y, no program: code by data in a round of a range over a function. -/
/-- an operation that defers no call -/
def noDefO (o : Oper) : Bool :=
  match o.op with
  | .defer _ => false
  | _ => true
def noDefOs : List Oper → Bool
  | [] => true
  | o :: r => noDefO o && noDefOs r
noncomputable def noDef (c : Code) : Bool :=
  @Code.rec (fun _ => Bool) true (fun _ ops _ => noDefOs ops.toList) (fun _ _ x y => x && y) (fun _ _ _ x y => x && y) (fun _ _ x => x) (fun _ x => x)
    (fun _ _ _ _ _ _ => false) (fun _ => true) (fun _ x => x) (fun _ => true) (fun _ => true) true (fun _ => true) c
theorem noDefOs_mem {l : List Oper} (h : noDefOs l = true) {o : Oper} (ho : o ∈ l) : ∀ c, o.op ≠ .defer c := by
  induction l with
  | nil => simp at ho
  | cons x r ih =>
    simp only [noDefOs, Bool.and_eq_true] at h
    rcases List.mem_cons.1 ho with rfl | ho
    · intro c e
      have := h.1
      unfold noDefO at this
      rw [e] at this; simp at this
    · exact ih h.2 ho
section
variable {P : Program} {l n : Nat} {Q : Exit → Act → World → Prop}
abbrev rF (l : Nat) : Fence := Fence.wide.inRound l
theorem callsIn_r {f : FuncId} {args : Array Value} {w : World} {R : Ending → World → Prop} (h : Calls P f args w R) : CallsIn (rF l) n P f args w R := CallsIn.inRound l (callsIn_wide.2 h)
theorem op_in {o : Oper} (hnd : ∀ c, o.op ≠ .defer c) {a : Act} {w : World} {K : Act → World → Prop} (h : o.wp P a w K Q) : o.wpIn (rF l) n P a w K Q := by
  refine ⟨fun _ _ => trivial, ?_⟩
  show o.uponIn (rF l) n P a K Q ((o.semAt (some l) a.eval).run P w)
  rw [Oper.semAt_some l a.eval o hnd]
  unfold Oper.wp at h
  generalize (execOp a.eval o).run P w = r at h
  unfold Oper.upon at h
  split at h
  · exact h
  · exact h
  · exact h
  · refine ⟨fun hd => by simp [rF, Fence.wide, Fence.inRound] at hd, ?_⟩
    exact callsIn_r h
  · refine ⟨fun hd => by simp [rF, Fence.wide, Fence.inRound] at hd, ?_⟩
    intro c cs _
    obtain ⟨v, w', hr, hs⟩ := h c cs
    exact ⟨v, w', hr, stepsIn_wide.2 hs⟩
  · exact h
  · exact h.elim
theorem wpList_in (hQ : ¬ LetsOut Q) {ops : Array Oper} : ∀ (os : List Oper) (_ : noDefOs os = true) (a : Act) (w : World), wpList P ops Q os a w → wpListIn (rF l) n P ops Q os a w
  | [], _, a, w, h => h
  | o :: rest, hnd, a, w, h => by
    simp only [noDefOs, Bool.and_eq_true] at hnd
    have hnd1 : ∀ c, o.op ≠ .defer c := fun c e => by have := hnd.1; unfold noDefO at this; rw [e] at this; simp at this
    simp only [wpList, wpListIn] at h ⊢
    split at h
    · rename_i hw
      rw [if_pos hw]
      rcases h with h | ⟨_, h⟩
      · exact op_in hnd1 (Oper.wp_mono (fun a w h => wpList_in hQ rest hnd.2 a w h) h)
      · exact absurd h hQ
    · rename_i hw
      rw [if_neg hw]
      exact ⟨fun _ _ => trivial, wpList_in hQ rest hnd.2 _ _ h⟩
theorem wpAny_in (hQ : ¬ LetsOut Q) {md : Region.Mode} {ops : Array Oper} (hnd : noDefOs ops.toList = true) : ∀ (fuel : Nat) (listed : Array Bool) (a : Act) (w : World), wpAny P md ops Q fuel listed a w → wpAnyIn (rF l) n P md ops Q fuel listed a w
  | 0, listed, a, w, h => h
  | fuel + 1, listed, a, w, h => by
    refine ⟨h.1, fun i hi => ?_⟩
    have h2 := h.2 i hi
    unfold wpOp at h2
    unfold wpOpIn
    cases ho : ops[i]? with
    | none => rw [ho] at h2; exact wpAny_in hQ hnd fuel _ a w h2
    | some o =>
      rw [ho] at h2
      have hm : o ∈ ops.toList := by
        obtain ⟨hi, rfl⟩ := Array.getElem?_eq_some_iff.1 ho
        exact Array.mem_toList_iff.2 (Array.getElem_mem hi)
      simp only at h2 ⊢
      split at h2
      · rename_i hw
        rw [if_pos hw]
        rcases h2 with h2 | ⟨_, h2⟩
        · exact op_in (noDefOs_mem hnd hm) (Oper.wp_mono (fun a w h => wpAny_in hQ hnd fuel _ a w h) h2)
        · exact absurd h2 hQ
      · rename_i hw
        rw [if_neg hw]
        exact ⟨fun _ _ => trivial, wpAny_in hQ hnd fuel _ _ _ h2⟩
/-- no way out but those that code knows -/
def NoOut (Q : Post) : Prop := ∀ env mem, ¬ Q .outgrown env mem
theorem NoOut.lets {p : Prm} {w0 : Base} {I0 : Nat → Prop} {Q : Post} (h : NoOut Q) : ¬ LetsOut (Like p w0 I0 Q) := fun ⟨_, _, env, mem, _, _, hq⟩ => h env mem hq
theorem NoOut.then {K : Env → Mem → Prop} {Q : Post} (h : NoOut Q) : NoOut (spThen K Q) := fun env mem hq => h env mem hq
theorem NoOut.block {id : Nat} {Q : Post} (h : NoOut Q) : NoOut (spBlock id Q) := fun env mem hq => h env mem hq
theorem sp_soundIn {p : Prm} {w0 : Base} {I0 : Nat → Prop} (hTB : TBok p.P p.TB) (hG : ∀ w, Bel w0.K w0.w w → p.G w) (hmix : p.P.follows .mixedOrders = true) : ∀ (c : Code) (_ : codeOk c = true) (_ : noDef c = true) (Q : Exit → Env → Mem → Prop) (_ : NoOut Q) (env : Env) (mem : Mem) (bs : Bs) (a : Act) (w : World),
    sp p c Q env mem → St w0 I0 p.nt env mem bs a w → c.wpIn (rF l) n p.P (Like p w0 I0 Q) a w := by
  intro c
  induction c with
  | skip => intro _ _ Q _ env mem bs a w h st; exact wpIn_skip ⟨env, mem, bs, st, h⟩
  | region id ops draw =>
    intro hc hd Q hQ env mem bs a w h st
    have hx : ∃ env mem bs, spRegion0 p ops.toList draw Q env mem ∧ St w0 I0 p.nt env mem bs a w := by
      have h : spRegion p ops.toList draw Q env mem := h
      unfold spRegion at h
      cases hk : isMk ops.toList with
      | false => rw [hk] at h; exact ⟨env, mem, bs, h, st⟩
      | true =>
        rw [hk] at h
        obtain ⟨E, M, he, h⟩ := h
        obtain ⟨bs', st'⟩ := entail_sound st he
        exact ⟨_, _, bs', h, st'⟩
    clear h st
    obtain ⟨env, mem, bs, h, st⟩ := hx
    have hd' : noDefOs ops.toList = true := hd
    cases draw with
    | false =>
      obtain ⟨rs, e, m, hr, hk⟩ := run_of_sp _ _ _ _ h
      refine wpIn_region_list (wpList_in hQ.lets _ hd' _ _ ?_)
      have := run_row (Q := Like p w0 I0 Q) hTB hG hr st (fun bs a w st' => ⟨e, m, bs, st', hk⟩)
      simpa using this
    | true =>
      obtain ⟨rs, e, m, hr, hok, hk⟩ := run_of_sp _ _ _ _ h
      refine wpIn_region_any hmix (wpAny_in hQ.lets hd' _ _ _ _ ?_)
      exact run_any (Q := Like p w0 I0 Q) hTB hG hc hr (by simpa using hok) st.drew (fun bs a w st' => ⟨e, m, bs, st', hk⟩)
  | seq x y ihx ihy =>
    intro hc hd Q hQ env mem bs a w h st
    simp only [codeOk, Bool.and_eq_true] at hc
    have hd : (noDef x && noDef y) = true := hd
    simp only [Bool.and_eq_true] at hd
    refine wpIn_seq (wpIn_mono (ihx hc.1 hd.1 _ hQ.then env mem bs a w h st) ?_)
    rintro e a' w' ⟨env', mem', bs', st', hq⟩
    cases e with
    | normal => exact ihy hc.2 hd.2 Q hQ env' mem' bs' a' w' hq st'
    | exit id => exact ⟨env', mem', bs', st', hq⟩
    | goto l => exact ⟨env', mem', bs', st', hq⟩
    | ret => exact ⟨env', mem', bs', st', hq⟩
    | panic ch => exact ⟨env', mem', bs', st', hq⟩
    | outgrown => exact ⟨env', mem', bs', st', hq⟩
  | cond c x y ihx ihy =>
    intro hc hd Q hQ env mem bs a w h st
    simp only [codeOk, Bool.and_eq_true] at hc
    have hd : (noDef x && noDef y) = true := hd
    simp only [Bool.and_eq_true] at hd
    obtain ⟨h1, _⟩ := opd_den st (fun _ => .inr rfl) c
    have h : spCond (opd env c) (sp p x Q env mem) (sp p y Q env mem) := h
    unfold spCond at h
    split at h
    · rename_i b hb
      rw [hb] at h1
      refine wpIn_cond_split (t := b) (den_one h1) (fun ht => ihx hc.1 hd.1 Q hQ env mem bs a w (h.1 ht) st) (fun ht => ihy hc.2 hd.2 Q hQ env mem bs a w (h.2 ht) st)
    · exact h.elim
  | block id x ih =>
    intro hc hd Q hQ env mem bs a w h st
    refine wpIn_block (wpIn_mono (ih hc hd _ hQ.block env mem bs a w h st) ?_)
    rintro e a' w' ⟨env', mem', bs', st', hq⟩
    cases e with
    | exit id' =>
      simp only [spBlock] at hq
      simp only [Exit.inBlock]
      by_cases e : id' = id
      · subst e
        rw [if_pos rfl]
        simp only [Nat.beq_refl, cond_true] at hq
        exact ⟨env', mem', bs', st', hq⟩
      · rw [if_neg e]
        have : Nat.beq id' id = false := by
          cases h2 : Nat.beq id' id with
          | false => rfl
          | true => exact absurd (Nat.eq_of_beq_eq_true h2) e
        simp only [this, cond_false] at hq
        exact ⟨env', mem', bs', st', hq⟩
    | normal => exact ⟨env', mem', bs', st', hq⟩
    | goto l => exact ⟨env', mem', bs', st', hq⟩
    | ret => exact ⟨env', mem', bs', st', hq⟩
    | panic ch => exact ⟨env', mem', bs', st', hq⟩
    | outgrown => exact ⟨env', mem', bs', st', hq⟩
  | loop x ih =>
    intro hc hd Q hQ env mem bs a w h st
    obtain ⟨ι, E, M, R, μ, i, hent, hR, hround⟩ := h
    obtain ⟨bs', st'⟩ := entail_sound st hent
    refine wpIn_loop_ghost (fun n a w => ∃ i, μ i = n ∧ R i ∧ ∃ bs, St w0 I0 p.nt (envOf (E i)) (memOf (M i)) bs a w) (μ i) ⟨i, rfl, hR, bs', st'⟩ ?_
    rintro n a w ⟨i, rfl, hR, bs, st⟩
    refine wpIn_mono (ih hc hd _ hQ.then _ _ bs a w (hround i hR) st) ?_
    rintro e a' w' ⟨env', mem', bs', st', hq⟩
    cases e with
    | normal =>
      obtain ⟨j, h1, h2, h3⟩ := hq
      obtain ⟨bs'', st''⟩ := entail_sound st' h3
      exact ⟨μ j, h2, j, rfl, h1, bs'', st''⟩
    | exit id => exact ⟨env', mem', bs', st', hq⟩
    | goto l => exact ⟨env', mem', bs', st', hq⟩
    | ret => exact ⟨env', mem', bs', st', hq⟩
    | panic ch => exact ⟨env', mem', bs', st', hq⟩
    | outgrown => exact ⟨env', mem', bs', st', hq⟩
  | exit id => intro _ _ Q _ env mem bs a w h st; exact wpIn_exit ⟨env, mem, bs, st, h⟩
  | ret => intro _ _ Q _ env mem bs a w h st; exact wpIn_ret ⟨env, mem, bs, st, h⟩
  | rangeFunc f ps ax x _ _ => intro _ _ Q _ env mem bs a w h; exact h.elim
  | scope x _ => intro _ _ Q _ env mem bs a w h; exact h.elim
  | label l => intro _ _ Q _ env mem bs a w h; exact h.elim
  | goto l => intro _ _ Q _ env mem bs a w h; exact h.elim
  | refuse s => intro _ _ Q _ env mem bs a w h; exact h.elim
end

/-! The engine, part Z, no program: ranges over functions: the state on another base; the contract of an iterator. -/
/-- a block of a variable or row that may be written -/
def Mut (mem : Mem) (bs : Bs) (b : Nat) : Prop := ∃ o, (mem o).mut = true ∧ blk (bs o) = some b
/-- all is kept but what may be written -/
def Base.at (w : World) (mem : Mem) (bs : Bs) (pin : Nat → Value) : Base := ⟨w, fun b => b < w.heap.size ∧ ¬ Mut mem bs b, fun _ h => h.1, pin⟩
section
variable {w0 : Base} {I0 : Nat → Prop} {nt : Shape} {env : Env} {mem : Mem} {bs : Bs} {a : Act} {w w' : World}
theorem St.mut_not (h : St w0 I0 nt env mem bs a w) {b : Nat} (hm : Mut mem bs b) : ¬ w0.K b ∧ b < w.heap.size := by
  obtain ⟨o, h1, h2⟩ := hm
  exact (h.obs o).block h1 b h2
theorem St.stay_not (h : St w0 I0 nt env mem bs a w) {b : Nat} (hs : Stay w0 I0 mem bs w b) : b < w.heap.size ∧ ¬ Mut mem bs b := by
  rcases hs with ⟨h1, h2⟩ | ⟨h1, h2, h3⟩
  · exact ⟨h.ltK h2, fun hm => (h.mut_not hm).1 h2⟩
  · exact ⟨h2, fun ⟨o, ho, hb⟩ => h3 o ho hb⟩
/-- the state on another base: what it leans on is as it was; the temporaries may be others -/
theorem St.rebase (h : St w0 I0 nt env mem bs a w) (hb : Bel (fun b => Stay w0 I0 mem bs w b ∨ Mut mem bs b) w w') (pin : Nat → Value) (I' : Nat → Prop) (hI : ∀ b, Stay w0 I0 mem bs w b → I' b) (hIm : ∀ b, I' b → b < w'.heap.size ∧ ¬ Mut mem bs b)
    {nt' : Shape} {env' : Env} {a' : Act} (hsz : a'.tmps.size = nt'.n) (hd : a'.defers = []) (hp : ∀ t, t ∈ nt'.pins → a'.tmps.getD t undef = pin t)
    (htmp : ∀ t, env' t = .junk ∨ (t < nt'.n ∧ ((env' t = env t ∧ a'.tmps.getD t undef = a.tmps.getD t undef) ∨ DenAV w' (Stay (Base.at w' mem bs pin) I' mem bs w') bs mem (a'.tmps.getD t undef) (env' t))))
    (hhs : ∀ t o, o ∈ (env' t).hs → okh mem o) : St (Base.at w' mem bs pin) I' nt' env' mem bs a' w' := by
  have hst : ∀ b, I' b → Stay (Base.at w' mem bs pin) I' mem bs w' b := fun b hb => .inl ⟨hb, hIm b hb⟩
  have K : Keeps w (Stay w0 I0 mem bs w) bs mem w' (Stay (Base.at w' mem bs pin) I' mem bs w') bs mem (okh mem) :=
    ⟨fun b hs => ⟨hst b (hI b hs), hb.block b (.inl hs)⟩, fun _ _ _ _ => rfl, fun o T n k xs own _ hm => ⟨T, xs, own, hm, rfl⟩⟩
  refine ⟨Bel.refl _ _, hsz, fun _ => hd, fun t => ?_, fun o => ?_, h.sep, hhs, h.hmem, hp, by rw [hd]; exact Marks.nil _ _⟩
  · rcases htmp t with h1 | ⟨h1, ⟨h2, h3⟩ | h2⟩
    · exact .inl h1
    · rcases h.tmp t with h4 | ⟨_, h4⟩
      · exact .inl (h2.trans h4)
      · refine .inr ⟨h1, ?_⟩
        rw [h2, h3]
        exact K.av (fun o ho => h.henv t o ho) h4
    · exact .inr ⟨h1, h2⟩
  · have h1 := ObOk.keeps K (fun p hp => h.hmem o p hp) hb.size (fun b hm hbo => hb.block b (.inr ⟨o, hm, hbo⟩)) (h.obs o)
    cases e : mem o with
    | gone => trivial
    | var T cs =>
      rw [e] at h1
      obtain ⟨b, l, g1, g2, g3⟩ := h1
      exact ⟨b, l, g1, fun hk => hk.2 ⟨o, by rw [e]; rfl, by rw [g1]; rfl⟩, g3⟩
    | row T n k xs own =>
      rw [e] at h1
      cases own with
      | false => exact h1
      | true =>
        obtain ⟨ys, g1, g2⟩ := h1
        refine ⟨ys, ownsK_of g1.row (fun k hk => fun hk1 => hk1.2 ⟨o, by rw [e]; rfl, ?_⟩), g2⟩
        rcases g1.2 with ⟨e1, _⟩ | ⟨g', cap', cur', e1, _⟩
        · rw [e1] at hk; simp [Value.ownBlock] at hk
        · rw [e1] at hk ⊢; simpa [blk, Value.ownBlock] using hk
end
/-- what a round, or an iterator between two of them, may change: blocks of f, and new ones -/
abbrev BelF (f : Nat → Prop) (w w' : World) : Prop := Bel (fun b => b < w.heap.size ∧ ¬ f b) w w'
theorem BelF.trans {f f' : Nat → Prop} {a b c : World} (h : BelF f a b) (k : BelF f' b c) (hf : ∀ x, f' x → f x ∨ a.heap.size ≤ x) : BelF f a c :=
  ⟨k.os.trans h.os, k.tape.trans h.tape, k.output.trans h.output, Nat.le_trans h.size k.size, fun i hi => (k.block i ⟨Nat.lt_of_lt_of_le hi.1 h.size, fun hx => by
    rcases hf i hx with h1 | h1
    · exact hi.2 h1
    · have := hi.1; omega⟩).trans (h.block i hi)⟩
/-- what the loop over an iterator keeps between two rounds: it leans on the blocks S; it may change those of f -/
structure Keeper (J : (Nat → Prop) → (Nat → Prop) → Nat → World → Prop) : Prop where
  abide : ∀ S f k W W', J S f k W → Bel S W W' → J S f k W'
  sub : ∀ S f k W, J S f k W → ∀ b, (f b → S b) ∧ (S b → b < W.heap.size)
/-- a round's word: blocks relied on and blocks that may be changed come of those that were, of the element's, and of new ones -/
def Step (S f I : Nat → Prop) (W W' : World) (S' f' : Nat → Prop) : Prop := BelF f W W' ∧ (∀ b, S' b → S b ∨ I b ∨ W.heap.size ≤ b) ∧ ∀ b, f' b → f b ∨ W.heap.size ≤ b
/-- a contract: the iterator gf, with what it has captured, yields these elements in this order, as long as it is told to go on -/
def SeqSpec (P : Program) (G : World → Prop) (gf : FuncId) (caps : List (List D)) (elems : List (List D)) : Prop :=
  Enters P gf ∧ ∀ (n l : Nat) (J Jx : (Nat → Prop) → (Nat → Prop) → Nat → World → Prop) (S f : Nat → Prop) (W : World) (I : Nat → Prop) (vs : List Value), Keeper J → Keeper Jx → J S f 0 W →
    (∀ w', BelF f W w' → G w') → (∀ b, I b → b < W.heap.size ∧ ¬ f b) → Rel2 (fun y v => DenAV W I noBs noMem y v) vs (caps.map fun cs => .val (.one (.ref cs))) →
    (∀ S f k W' I' vs ds, J S f k W' → elems[k]? = some ds → (∀ b, I' b → (I b ∨ W.heap.size ≤ b) ∧ b < W'.heap.size ∧ ¬ f b) → Rel2 (fun y d => Den W' I' y d) vs ds →
      YieldAt Fence.wide n P l vs.toArray W' fun e W'' => ∃ S' f', Step S f I' W' W'' S' f' ∧ ((e = .returned (.bool true) ∧ J S' f' (k + 1) W'') ∨ (e = .returned (.bool false) ∧ Jx S' f' 0 W''))) →
    CallsIn Fence.wide n P gf (#[.func (.yield l) #[] #[]] ++ vs.toArray) W fun e W' => (∃ v, e = .returned v) ∧ ∃ S' f', BelF f W W' ∧ (∀ b, f' b → f b ∨ W.heap.size ≤ b) ∧ (J S' f' elems.length W' ∨ Jx S' f' 0 W')
section
variable {w0 : Base} {I0 : Nat → Prop} {nt : Shape} {env : Env} {mem : Mem} {bs : Bs} {a : Act} {w W : World} {T : Nat → Prop} {pin : Nat → Value}
theorem stay_at {b : Nat} (h : Stay (Base.at W mem bs pin) T mem bs W b) : T b := by
  rcases h with ⟨h1, _⟩ | ⟨h1, h2, h3⟩
  · exact h1
  · exact absurd ⟨h2, fun ⟨o, ho, hb⟩ => h3 o ho hb⟩ h1
/-- back to the base that the call began with -/
theorem St.back (h : St (Base.at W mem bs pin) T nt env mem bs a W) (hb : Bel w0.K w0.w W) (hT : ∀ b, T b → b < W.heap.size ∧ ¬ Mut mem bs b) (hK : ∀ b, T b → w0.K b → I0 b) (hM : ∀ b, Mut mem bs b → ¬ w0.K b) (hp : nt.pins = []) {a' : Act} (ht : a'.tmps = a.tmps) (hd : nt.marks = false → a'.defers = []) (hmk : Marks (fun b => T b ∧ ¬ w0.K b) W a'.defers) : St w0 I0 nt env mem bs a' W := by
  have hst : ∀ b, Stay (Base.at W mem bs pin) T mem bs W b → Stay w0 I0 mem bs W b := fun b hs => by
    have h1 := stay_at hs
    by_cases hk : w0.K b
    · exact .inl ⟨hK b h1 hk, hk⟩
    · exact .inr ⟨hk, (hT b h1).1, fun o ho hbo => (hT b h1).2 ⟨o, ho, hbo⟩⟩
  have K : Keeps W (Stay (Base.at W mem bs pin) T mem bs W) bs mem W (Stay w0 I0 mem bs W) bs mem (okh mem) :=
    ⟨fun b hs => ⟨hst b hs, rfl⟩, fun _ _ _ _ => rfl, fun o T n k xs own _ hm => ⟨T, xs, own, hm, rfl⟩⟩
  refine ⟨hb, by rw [ht]; exact h.size, hd, fun t => ?_, fun o => ?_, h.sep, h.henv, h.hmem, fun t ht => by rw [hp] at ht; simp at ht, hmk.mono fun b hb => ⟨⟨.inr ⟨hb.2, (hT b hb.1).1, fun o ho hbo => (hT b hb.1).2 ⟨o, ho, hbo⟩⟩, hb.2⟩, rfl⟩⟩
  · rcases h.tmp t with h1 | ⟨h1, h2⟩
    · exact .inl h1
    · exact .inr ⟨h1, by rw [ht]; exact K.av (fun o ho => h.henv t o ho) h2⟩
  · have h1 := ObOk.keeps K (fun p hp => h.hmem o p hp) (Nat.le_refl _) (fun b _ _ => rfl) (h.obs o)
    cases e : mem o with
    | gone => trivial
    | var T cs =>
      rw [e] at h1
      obtain ⟨b, l, g1, g2, g3⟩ := h1
      exact ⟨b, l, g1, hM b ⟨o, by rw [e]; rfl, by rw [g1]; rfl⟩, g3⟩
    | row T n k xs own =>
      rw [e] at h1
      cases own with
      | false => exact h1
      | true =>
        obtain ⟨ys, g1, g2⟩ := h1
        refine ⟨ys, ownsK_of g1.row (fun k hk => hM k ⟨o, by rw [e]; rfl, ?_⟩), g2⟩
        rcases g1.2 with ⟨e1, _⟩ | ⟨g', cap', cur', e1, _⟩
        · rw [e1] at hk; simp [Value.ownBlock] at hk
        · rw [e1] at hk ⊢; simpa [blk, Value.ownBlock] using hk
end
/-- the temporaries that an element is laid into -/
def envPs : List Nat → List D → Env → Env
  | p :: ps, d :: ds, env => envPs ps ds (upd env p (.val (.one (.d d))))
  | _, _, env => env
theorem ps_ok {w : World} {I : Nat → Prop} : ∀ (ps : List Nat) (ds : List D) (vs : List Value) (tm : Array Value) (env : Env), Rel2 (fun y d => Den w I y d) vs ds → ds.length = ps.length → (∀ q, q ∈ ps → q < tm.size) →
    ((ps.zip vs).foldl (fun (t : Array Value) (x : Nat × Value) => t.setIfInBounds x.1 x.2) tm).size = tm.size ∧
    ∀ t, (t ∉ ps ∧ envPs ps ds env t = env t ∧ ((ps.zip vs).foldl (fun (t : Array Value) (x : Nat × Value) => t.setIfInBounds x.1 x.2) tm).getD t undef = tm.getD t undef) ∨
      (t ∈ ps ∧ ∃ d, envPs ps ds env t = .val (.one (.d d)) ∧ Den w I (((ps.zip vs).foldl (fun (t : Array Value) (x : Nat × Value) => t.setIfInBounds x.1 x.2) tm).getD t undef) d)
  | [], ds, vs, tm, env, _, _, _ => by
    refine ⟨by simp, fun t => .inl ⟨by simp, ?_, by simp⟩⟩
    cases ds <;> rfl
  | p :: ps, [], vs, tm, env, _, h, _ => by simp at h
  | p :: ps, d :: ds, [], tm, env, h, _, _ => by have := h.1; simp at this
  | p :: ps, d :: ds, v :: vs, tm, env, h, hl, hs => by
    obtain ⟨h1, h2⟩ := h.of_cons
    have hp : p < tm.size := hs p List.mem_cons_self
    obtain ⟨g1, g2⟩ := ps_ok ps ds vs (tm.setIfInBounds p v) (upd env p (.val (.one (.d d)))) h2 (by simpa using hl) (fun q hq => by rw [Array.size_setIfInBounds]; exact hs q (List.mem_cons_of_mem _ hq))
    refine ⟨by simpa using g1, fun t => ?_⟩
    have e : ((p :: ps).zip (v :: vs)).foldl (fun (t : Array Value) (x : Nat × Value) => t.setIfInBounds x.1 x.2) tm = (ps.zip vs).foldl (fun (t : Array Value) (x : Nat × Value) => t.setIfInBounds x.1 x.2) (tm.setIfInBounds p v) := rfl
    have e2 : envPs (p :: ps) (d :: ds) env = envPs ps ds (upd env p (.val (.one (.d d)))) := rfl
    rw [e, e2]
    rcases g2 t with ⟨k1, k2, k3⟩ | ⟨k1, d', k2, k3⟩
    · by_cases ht : t = p
      · subst ht
        refine .inr ⟨List.mem_cons_self, d, by rw [k2, upd_same], ?_⟩
        rw [k3]
        have : (tm.setIfInBounds t v).getD t undef = v := by simp [hp]
        rw [this]; exact h1
      · refine .inl ⟨fun hm => ?_, by rw [k2, upd_ne _ _ ht], ?_⟩
        · rcases List.mem_cons.1 hm with rfl | hm
          · exact ht rfl
          · exact k1 hm
        · rw [k3]; simp [Array.getElem?_setIfInBounds_ne (Ne.symm ht)]
    · exact .inr ⟨List.mem_cons_of_mem _ k1, d', k2, k3⟩
/-- a loop over an iterator, by data -/
def prmR (p : Prm) (E : List (Nat × AV)) : Prm := { p with nt := ⟨p.nt.n, E.map (·.1), false⟩ }
def qBody {ι : Type} (E : List (Nat × AV)) (M : ι → List (Nat × Ob)) (R : ι → Nat → Prop) (k : Nat) (Q : Post) : Post
  | .normal, env, mem => ∃ j, R j (k + 1) ∧ entail env mem E (M j)
  | .ret, env, mem => ∃ M', entail env mem E M' ∧ Q .ret (envOf E) (memOf M')
  | .exit id, env, mem => ∃ M', entail env mem E M' ∧ Q (.exit id) (envOf E) (memOf M')
  | _, _, _ => False
def spRange (p : Prm) (g : Operand) (ps : List Nat) (assign body : Code) (Q : Post) (env : Env) (mem : Mem) : Prop :=
  (noDef assign && noDef body && codeOk assign && codeOk body) = true ∧
    ∃ (gf : FuncId) (caps elems : List (List D)) (E : List (Nat × AV)) (ι : Type) (M : ι → List (Nat × Ob)) (R : ι → Nat → Prop) (i0 : ι), opd (envOf E) g = .val (.one (.d (.fn gf caps))) ∧ SeqSpec p.P p.G gf caps elems ∧ (∀ ds, ds ∈ elems → ds.length = ps.length) ∧
      (∀ q, q ∈ ps → q < p.nt.n ∧ q ∉ E.map (·.1)) ∧ entail env mem E (M i0) ∧ R i0 0 ∧
      (∀ i k ds, elems[k]? = some ds → R i k → sp (prmR p E) assign (spThen (fun env1 mem1 => sp (prmR p E) body (qBody E M R k Q) env1 mem1) (fun _ _ _ => False)) (envPs ps ds (envOf E)) (memOf (M i))) ∧
      ∀ i, R i elems.length → Q .normal (envOf E) (memOf (M i))

end Go.Proofs.Ytobeklcimmjodaa.eng
