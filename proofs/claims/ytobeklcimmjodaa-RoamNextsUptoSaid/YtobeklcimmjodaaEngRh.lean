/- The engine, no program: a function that holds a loop over an iterator. -/
import Derived.Test.YtobeklcimmjodaaEngRg
namespace Go.Proofs.Ytobeklcimmjodaa.eng
open Go.RowKit mem
/-- code by data, loops over iterators among it -/
noncomputable def spR (p : Prm) (c : Code) (Q : Post) (env : Env) (mem : Mem) : Prop :=
  @Code.rec (fun _ => Post → Env → Mem → Prop)
    (fun Q env mem => Q .normal env mem)
    (fun _ ops draw Q env mem => spRegion p ops.toList draw Q env mem)
    (fun _ _ x y Q env mem => x (spThen (y Q) Q) env mem)
    (fun c _ _ x y Q env mem => spCond (opd env c) (x Q env mem) (y Q env mem))
    (fun id _ x Q env mem => x (spBlock id Q) env mem)
    (fun _ x Q env mem => spLoop x Q env mem)
    (fun g ps ax x _ _ Q env mem => spRange p g ps.toList ax x Q env mem)
    (fun id Q env mem => Q (.exit id) env mem)
    (fun _ _ _ _ _ => False)
    (fun _ _ _ _ => False)
    (fun _ _ _ _ => False)
    (fun Q env mem => Q .ret env mem)
    (fun _ _ _ _ => False) c Q env mem
theorem spR_sound {n : Nat} {p : Prm} {w0 : Base} {I0 : Nat → Prop} (hTB : TBok p.P p.TB) (hG : ∀ w, Bel w0.K w0.w w → p.G w) (hmix : p.P.follows .mixedOrders = true) (hmk : p.nt.marks = true) (hpin : p.nt.pins = []) : ∀ (c : Code) (_ : codeOk c = true) (Q : Exit → Env → Mem → Prop) (env : Env) (mem : Mem) (bs : Bs) (a : Act) (w : World),
    spR p c Q env mem → St w0 I0 p.nt env mem bs a w → c.wpIn Fence.wide n p.P (Like p w0 I0 Q) a w := by
  intro c
  induction c with
  | skip => intro _ Q env mem bs a w h st; exact wpIn_skip ⟨env, mem, bs, st, h⟩
  | region id ops draw =>
    intro hc Q env mem bs a w h st
    exact wpIn_wide.2 (sp_sound hTB hG hmix (.region id ops draw) hc Q env mem bs a w h st)
  | seq x y ihx ihy =>
    intro hc Q env mem bs a w h st
    simp only [codeOk, Bool.and_eq_true] at hc
    refine wpIn_seq (wpIn_mono (ihx hc.1 _ env mem bs a w h st) ?_)
    rintro e a' w' ⟨env', mem', bs', st', hq⟩
    cases e with
    | normal => exact ihy hc.2 Q env' mem' bs' a' w' hq st'
    | exit id => exact ⟨env', mem', bs', st', hq⟩
    | goto l => exact ⟨env', mem', bs', st', hq⟩
    | ret => exact ⟨env', mem', bs', st', hq⟩
    | panic ch => exact ⟨env', mem', bs', st', hq⟩
    | outgrown => exact ⟨env', mem', bs', st', hq⟩
  | cond c x y ihx ihy =>
    intro hc Q env mem bs a w h st
    simp only [codeOk, Bool.and_eq_true] at hc
    obtain ⟨h1, _⟩ := opd_den st (fun _ => .inr rfl) c
    have h : spCond (opd env c) (spR p x Q env mem) (spR p y Q env mem) := h
    unfold spCond at h
    split at h
    · rename_i b hb
      rw [hb] at h1
      refine wpIn_cond_split (t := b) (den_one h1) (fun ht => ihx hc.1 Q env mem bs a w (h.1 ht) st) (fun ht => ihy hc.2 Q env mem bs a w (h.2 ht) st)
    · exact h.elim
  | block id x ih =>
    intro hc Q env mem bs a w h st
    refine wpIn_block (wpIn_mono (ih hc _ env mem bs a w h st) ?_)
    rintro e a' w' ⟨env', mem', bs', st', hq⟩
    cases e with
    | exit id' =>
      simp only [spBlock] at hq
      simp only [Exit.inBlock]
      by_cases e : id' = id
      · subst e
        rw [if_pos rfl]
        simp only [Nat.beq_refl, cond_true] at hq
        exact ⟨env', mem', bs', st', hq⟩
      · rw [if_neg e]
        have : Nat.beq id' id = false := by
          cases h2 : Nat.beq id' id with
          | false => rfl
          | true => exact absurd (Nat.eq_of_beq_eq_true h2) e
        simp only [this, cond_false] at hq
        exact ⟨env', mem', bs', st', hq⟩
    | normal => exact ⟨env', mem', bs', st', hq⟩
    | goto l => exact ⟨env', mem', bs', st', hq⟩
    | ret => exact ⟨env', mem', bs', st', hq⟩
    | panic ch => exact ⟨env', mem', bs', st', hq⟩
    | outgrown => exact ⟨env', mem', bs', st', hq⟩
  | loop x ih =>
    intro hc Q env mem bs a w h st
    obtain ⟨ι, E, M, R, μ, i, hent, hR, hround⟩ := h
    obtain ⟨bs', st'⟩ := entail_sound st hent
    refine wpIn_loop_ghost (fun n a w => ∃ i, μ i = n ∧ R i ∧ ∃ bs, St w0 I0 p.nt (envOf (E i)) (memOf (M i)) bs a w) (μ i) ⟨i, rfl, hR, bs', st'⟩ ?_
    rintro n a w ⟨i, rfl, hR, bs, st⟩
    refine wpIn_mono (ih hc _ _ _ bs a w (hround i hR) st) ?_
    rintro e a' w' ⟨env', mem', bs', st', hq⟩
    cases e with
    | normal =>
      obtain ⟨j, h1, h2, h3⟩ := hq
      obtain ⟨bs'', st''⟩ := entail_sound st' h3
      exact ⟨μ j, h2, j, rfl, h1, bs'', st''⟩
    | exit id => exact ⟨env', mem', bs', st', hq⟩
    | goto l => exact ⟨env', mem', bs', st', hq⟩
    | ret => exact ⟨env', mem', bs', st', hq⟩
    | panic ch => exact ⟨env', mem', bs', st', hq⟩
    | outgrown => exact ⟨env', mem', bs', st', hq⟩
  | exit id => intro _ Q env mem bs a w h st; exact wpIn_exit ⟨env, mem, bs, st, h⟩
  | ret => intro _ Q env mem bs a w h st; exact wpIn_ret ⟨env, mem, bs, st, h⟩
  | rangeFunc f ps ax x _ _ => intro _ Q env mem bs a w h st; exact range_sound hTB hG hmix hmk hpin h st
  | scope x _ => intro _ Q env mem bs a w h; exact h.elim
  | label l => intro _ Q env mem bs a w h; exact h.elim
  | goto l => intro _ Q env mem bs a w h; exact h.elim
  | refuse s => intro _ Q env mem bs a w h; exact h.elim
section
variable {w w' : World} {I : Nat → Prop} {bs : Bs} {mem : Mem}
/-- cells stay where only a block without cells changes -/
theorem Den.cells (hc : ∀ a y, w.cell? a = some y → w'.cell? a = some y) {x : Value} {d : D} (h : Den w I x d) : Den w' I x d := by
  induction h with
  | v x hx => exact .v x hx
  | nil a cap => exact .nil a cap
  | list b off cap n xs c hb hn hl hcc hd hcap ih => exact .list b off cap n xs c hb hn hl (fun i j hi hj => hc _ _ (hcc i j hi hj)) ih hcap
  | iface t l cs hl hd ih => exact .iface t l cs hl ih
  | fn f caps pb po c hb hcc hd ih => exact .fn f caps pb po c hb (fun i j r hr hj => hc _ _ (hcc i j r hr hj)) ih
theorem DenC.cells (hc : ∀ a y, w.cell? a = some y → w'.cell? a = some y) {x : Value} {c : C} (h : DenC w I bs mem x c) : DenC w' I bs mem x c := by
  cases c with
  | d d => exact Den.cells hc h
  | row o k => exact h
  | ptr o off => exact h
  | ref cs =>
    obtain ⟨b, off, h1, h2, h3⟩ := h
    exact ⟨b, off, h1, h2, fun j d hj => let ⟨y, hy, hd⟩ := h3 j d hj; ⟨y, hc _ _ hy, hd.cells hc⟩⟩
  | full xs => exact ⟨h.1.cells hc, h.2⟩
  | rp o k n i off => exact h
theorem DenS.cells (hc : ∀ a y, w.cell? a = some y → w'.cell? a = some y) {x : Value} {s : S} (h : DenS w I bs mem x s) : DenS w' I bs mem x s := by
  cases s with
  | one c => exact DenC.cells hc h
  | agg cs =>
    obtain ⟨l, h1, h2, h3⟩ := h
    exact ⟨l, h1, h2, fun j c y hj hy => (h3 j c y hj hy).cells hc⟩
theorem DenAV.cells (hc : ∀ a y, w.cell? a = some y → w'.cell? a = some y) {x : Value} {v : AV} (h : DenAV w I bs mem x v) : DenAV w' I bs mem x v := by
  cases v with
  | val s => exact DenS.cells hc h
  | tup ss =>
    obtain ⟨l, h1, h2, h3⟩ := h
    exact ⟨l, h1, h2, fun j c y hj hy => (h3 j c y hj hy).cells hc⟩
  | junk => trivial
  | new T n xs => exact h.elim
variable {w0 : Base} {I0 : Nat → Prop} {nt : Shape} {env : Env} {a : Act}
/-- a mark is taken -/
theorem St.take (h : St w0 I0 nt env mem bs a w) {D : Nat} {o : Obj} {ds : List Deferred} (hD : w.heap[D]? = some (.deferred (some []))) (hK : ¬ w0.K D) (hds : a.defers = { target := .collected D, args := #[] } :: ds) :
    St w0 I0 nt env mem bs { a with defers := ds } (w.putObj D o) := by
  have hs : ∀ b, Stay w0 I0 mem bs (w.putObj D o) b = Stay w0 I0 mem bs w b := fun b => by unfold Stay; rw [World.putObj_size]
  have hs' : Stay w0 I0 mem bs (w.putObj D o) = Stay w0 I0 mem bs w := funext hs
  have hc : ∀ a y, w.cell? a = some y → (w.putObj D o).cell? a = some y := by
    intro a y hy
    by_cases e : a.block = D
    · unfold World.cell? at hy; rw [e, hD] at hy; simp at hy
    · unfold World.cell? at hy ⊢; rw [World.putObj_heap_other e]; exact hy
  refine ⟨h.below.trans (bel_putObj hK), h.size, fun e => ?_, fun t => ?_, fun q => ?_, h.sep, h.henv, h.hmem, h.pin, ?_⟩
  · have := h.defers e; rw [hds] at this; simp at this
  · rcases h.tmp t with h1 | ⟨h1, h2⟩
    · exact .inl h1
    · rw [hs']; exact .inr ⟨h1, h2.cells hc⟩
  · have h1 := h.obs q
    rw [hs']
    cases e : mem q with
    | gone => trivial
    | var T cs =>
      rw [e] at h1
      obtain ⟨b, l, g1, g2, g3, g4, g5⟩ := h1
      refine ⟨b, l, g1, g2, ?_, g4, fun j c y hj hy => (g5 j c y hj hy).cells hc⟩
      by_cases e : b = D
      · subst e
        unfold Row at g3
        rw [hD] at g3; simp at g3
      · unfold Row at g3 ⊢
        rw [World.putObj_heap_other e]; exact g3
    | row T n k xs own =>
      rw [e] at h1
      cases own with
      | false => exact Den.cells hc h1
      | true =>
        obtain ⟨ys, g1, g2, g3, g4, g5⟩ := h1
        refine ⟨ys, ⟨g1.1, ?_⟩, g2, g3, g4, fun i j r d hi hj => let ⟨y, hy, hd⟩ := g5 i j r d hi hj; ⟨y, hy, hd.cells hc⟩⟩
        rcases g1.2 with g | ⟨g', cap, cur, f1, f2, f3, f4⟩
        · exact .inl g
        · refine .inr ⟨g', cap, cur, f1, f2, ?_, f4⟩
          by_cases e : g' = D
          · subst e; rw [hD] at f3; simp at f3
          · rw [World.putObj_heap_other e]; exact f3
  · have hm := h.marks
    rw [hds] at hm
    have hm1 := List.pairwise_cons.1 hm.1
    refine ⟨hm1.2, fun d hd => ?_⟩
    obtain ⟨D', e', hD', h3⟩ := hm.2 d (List.mem_cons_of_mem _ hd)
    refine ⟨D', e', by rw [hs']; exact hD', ?_⟩
    rw [World.putObj_heap_other]
    · exact h3
    · rintro rfl
      exact hm1.1 d hd e'.symm
end
theorem leaves_marks {n : Nat} {P : Program} {fn : Func} {R : Ending → World → Prop} {w0 : Base} {I0 : Nat → Prop} {nt : Shape} {env : Env} {mem : Mem} {bs : Bs}
    (hR : ∀ (a : Act) (w : World), St w0 I0 nt env mem bs a w → ∃ v, (results fn a.tmps).run P w = .ok v w ∧ R (.returned v) w) :
    ∀ (ds : List Deferred) (a : Act) (w : World), a.defers = ds → St w0 I0 nt env mem bs a w → LeavesInM Fence.wide n P fn a.tmps R ds .returning w
  | [], a, w, _, st => hR a w st
  | d :: ds, a, w, hd, st => by
    obtain ⟨D, rfl, hD, h3⟩ := st.marks.2 d (by rw [hd]; exact List.mem_cons_self)
    exact ⟨by simp, .inl ⟨D, _, rfl, run_takeDeferred h3, leaves_marks hR ds { a with defers := ds } _ rfl (st.take h3 hD.2 hd)⟩⟩
/-- a function that holds a loop over an iterator -/
theorem spec_R {p : Prm} {f : FuncId} {fn : Func} {c : Code} (hf : p.P.funcs[f]? = some fn) (hb : fn.body = some c) (hn : (fn.name == "runtime.NumGoroutine") = false) (hnt : fn.ntmps = p.nt.n) (hpn : p.nt.pins = []) (hmk : p.nt.marks = true) {rs : List ResultVar} (hrs : fn.results = ⟨rs⟩)
    (hTB : TBok p.P p.TB) (hG : ∀ w w', p.G w → Below w.heap.size w w' → p.G w') (hmix : p.P.follows .mixedOrders = true) (hc : codeOk c = true) {args : List AV} {r : AV} (hargs : freeAVs args = true) (hlen : Nat.ble args.length p.nt.n = true)
    (h : spR p c (RetIs p rs r) (envArgs 0 args) noMem) : Spec p.P p.G f args r := by
  refine ⟨enters_of hf hb hn, fun w I vs hw hI hrel => ?_⟩
  refine callsIn_wide.1 (callsIn_of_wp_marks (n := 0) hf hb trivial ?_)
  have hlen' := Nat.le_of_ble_eq_true hlen
  have hvl : vs.length = args.length := hrel.1
  have hIs : ∀ b, I b → Stay (Base.all w) I noMem noBs w b := fun b hb => .inl ⟨hb, hI b hb⟩
  have st : St (Base.all w) I p.nt (envArgs 0 args) noMem noBs { tmps := vs.toArray ++ Array.replicate (fn.ntmps - vs.toArray.size) undef, defers := [] } w := by
    refine ⟨Bel.refl _ _, by simp [hnt]; omega, fun _ => rfl, ?_, fun o => trivial, fun o o' b hm => by simp [noMem, Ob.mut] at hm, ?_, fun q o ho => by simp [noMem, Ob.hs] at ho, fun t ht => by rw [hpn] at ht; simp at ht, Marks.nil _ _⟩
    · intro t
      rcases envArgs_is args 0 t with h1 | ⟨_, v, h2, h3⟩
      · exact .inl h1
      · simp only [Nat.sub_zero] at h2
        have hlt : t < args.length := (List.getElem?_eq_some_iff.1 h2).1
        refine .inr ⟨by omega, ?_⟩
        rw [h3]
        obtain ⟨y, hy, hd⟩ := hrel.get h2
        have e : (vs.toArray ++ Array.replicate (fn.ntmps - vs.toArray.size) undef).getD t undef = y := by
          rw [Array.getD_eq_getD_getElem?, Array.getElem?_append_left (by simp; omega)]
          simp [hy]
        rw [e]
        have K : Keeps w I noBs noMem w (Stay (Base.all w) I noMem noBs w) noBs noMem (fun _ => False) := ⟨fun b hb => ⟨hIs b hb, rfl⟩, fun _ _ h => h.elim, fun _ _ _ _ _ _ h => h.elim⟩
        exact K.av (fun o ho => by rw [freeAVs_hs hargs v (List.mem_of_getElem? h2)] at ho; simp at ho) hd
    · intro t o ho
      rcases envArgs_is args 0 t with h1 | ⟨_, v, h2, h3⟩
      · rw [h1] at ho; simp [AV.hs] at ho
      · simp only [Nat.sub_zero] at h2
        rw [h3, freeAVs_hs hargs v (List.mem_of_getElem? h2)] at ho; simp at ho
  refine wpIn_mono (spR_sound (w0 := Base.all w) (I0 := I) hTB (fun w' hb => hG w w' hw hb.to_below) hmix hmk hpn c hc _ _ _ _ _ _ h st) ?_
  rintro e a' w' ⟨env', mem', bs', st', hq⟩
  have fin : resK p env' (frzR env' rs mem') rs (fun l => r = tupOf l) → LeavesInM Fence.wide 0 p.P fn a'.tmps (fun e w' => ∃ x, e = .returned x ∧ DenAV w' (fun b => I b ∨ (w.heap.size ≤ b ∧ b < w'.heap.size)) noBs noMem x r ∧ Below w.heap.size w w') a'.defers .returning w' := by
    intro hres
    have st1 := St.frzR rs st'
    generalize frzR env' rs mem' = mem1 at hres st1
    refine leaves_marks (fun a2 w2 st2 => ?_) _ _ _ rfl st1
    obtain ⟨l, vs', h1, h2, h3, h4⟩ := res_sound hTB st2 rs _ hres
    have hst : ∀ b, Stay (Base.all w) I mem1 bs' w2 b → (I b ∨ (w.heap.size ≤ b ∧ b < w2.heap.size)) ∧ w2.heap[b]? = w2.heap[b]? := by
      intro b hb
      rcases hb with ⟨g1, _⟩ | ⟨g1, g2, _⟩
      · exact ⟨.inl g1, rfl⟩
      · exact ⟨.inr ⟨Nat.le_of_not_lt g1, g2⟩, rfl⟩
    have K : Keeps w2 (Stay (Base.all w) I mem1 bs' w2) noBs noMem w2 (fun b => I b ∨ (w.heap.size ≤ b ∧ b < w2.heap.size)) noBs noMem (fun _ => False) := ⟨hst, fun _ _ h => h.elim, fun _ _ _ _ _ _ h => h.elim⟩
    have hrel : Rel2 (fun y s => DenS w2 (fun b => I b ∨ (w.heap.size ≤ b ∧ b < w2.heap.size)) noBs noMem y s) vs' l := h4.mono fun y s hs hd => K.s (fun o ho => by rw [h2 s hs] at ho; simp at ho) hd
    refine ⟨(if h : vs'.length = 1 then vs'[0] else .tuple vs'.toArray), run_results hrs h3, _, rfl, ?_, st2.below.to_below⟩
    rw [h1]
    match l, vs', hrel with
    | [s], [v], hrel => exact hrel.of_cons.1
    | [], [], hrel => exact ⟨[], rfl, rfl, fun j s y hs => by simp at hs⟩
    | s :: s' :: l, v :: v' :: vs, hrel =>
      rw [dif_neg (by simp)]
      exact ⟨v :: v' :: vs, rfl, hrel.1, hrel.2⟩
    | [], _ :: _, hrel => have := hrel.1; simp at this
    | [_], [], hrel => have := hrel.1; simp at this
    | [_], _ :: _ :: _, hrel => have := hrel.1; simp at this
    | _ :: _ :: _, [], hrel => have := hrel.1; simp at this
    | _ :: _ :: _, [_], hrel => have := hrel.1; simp at this
  cases e with
  | normal => exact fin hq
  | ret => exact fin hq
  | exit id => exact hq.elim
  | goto l => exact hq.elim
  | panic ch => exact hq.elim
  | outgrown => exact hq.elim
end Go.Proofs.Ytobeklcimmjodaa.eng
