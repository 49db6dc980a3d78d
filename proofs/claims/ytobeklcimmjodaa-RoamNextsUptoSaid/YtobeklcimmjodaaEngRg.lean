/- The engine, no program: a loop over an iterator, sound. -/
import Derived.Test.YtobeklcimmjodaaEngRf
namespace Go.Proofs.Ytobeklcimmjodaa.eng
open Go.RowKit mem
theorem stay_from {W w : World} {mem mem' : Mem} {bs bs' : Bs} {pin : Nat → Value} {T : Nat → Prop} {b : Nat} (h : Stay (Base.at W mem bs pin) T mem' bs' w b) : T b ∨ Mut mem bs b ∨ W.heap.size ≤ b := by
  rcases h with ⟨h1, _⟩ | ⟨h1, _, _⟩
  · exact .inl h1
  · by_cases hm : Mut mem bs b
    · exact .inr (.inl hm)
    · by_cases hs : b < W.heap.size
      · exact absurd ⟨hs, hm⟩ h1
      · exact .inr (.inr (by omega))
theorem mut_from {W w : World} {nt : Shape} {env : Env} {a : Act} {mem mem' : Mem} {bs bs' : Bs} {pin : Nat → Value} {T : Nat → Prop} {b : Nat} (h : St (Base.at W mem bs pin) T nt env mem' bs' a w) (hm : Mut mem' bs' b) : Mut mem bs b ∨ W.heap.size ≤ b := by
  have h1 := (h.mut_not hm).1
  by_cases h2 : Mut mem bs b
  · exact .inl h2
  · by_cases hs : b < W.heap.size
    · exact absurd ⟨hs, h2⟩ h1
    · exact .inr (by omega)
theorem Bel.sub {K K' : Nat → Prop} {w w' : World} (h : Bel K w w') (hk : ∀ b, K' b → K b) : Bel K' w w' := ⟨h.os, h.tape, h.output, h.size, fun b hb => h.block b (hk b hb)⟩
theorem bel_putObj {K : Nat → Prop} {w : World} {l : Nat} {o : Obj} (h : ¬ K l) : Bel K w (w.putObj l o) :=
  ⟨rfl, rfl, rfl, Nat.le_of_eq World.putObj_size.symm, fun _ hb => World.putObj_heap_other (fun e => h (e ▸ hb))⟩
/-- the loop's word between two rounds -/
structure LoopW (p : Prm) (w0 : Base) (I0 : Nat → Prop) (E : List (Nat × AV)) (a0 : Act) (l D : Nat) (r : Loop) (Mm : List (Nat × Ob)) (T : Nat → Prop) (bs : Bs) (S f : Nat → Prop) (W : World) : Prop where
  st : St (Base.at W (memOf Mm) bs fun t => a0.tmps.getD t undef) T (prmR p E).nt (envOf E) (memOf Mm) bs { a0 with defers := [] } W
  s : ∀ b, S b ↔ (T b ∨ w0.K b ∨ Mut (memOf Mm) bs b ∨ b = l ∨ b = D)
  f : ∀ b, f b ↔ (Mut (memOf Mm) bs b ∨ b = l)
  lrec : W.heap[l]? = some (.loop r)
  dblk : W.heap[D]? = some (.deferred (some []))
  old : ∀ b, T b → b < W.heap.size ∧ ¬ Mut (memOf Mm) bs b ∧ b ≠ l ∧ b ≠ D ∧ (w0.K b → I0 b)
  new : ∀ b, Mut (memOf Mm) bs b → ¬ w0.K b ∧ b ≠ l ∧ b ≠ D
  ld : l ≠ D ∧ w0.w.heap.size ≤ l ∧ w0.w.heap.size ≤ D
  bel : Bel w0.K w0.w W
  marks : Marks (fun b => T b ∧ ¬ w0.K b) W a0.defers
section
variable {p : Prm} {w0 : Base} {I0 : Nat → Prop} {E : List (Nat × AV)} {a0 : Act} {l D : Nat} {r : Loop} {Mm : List (Nat × Ob)} {T : Nat → Prop} {bs : Bs} {S f : Nat → Prop} {W W' : World}
theorem lt_of_some {W : World} {b : Nat} {o : Obj} (h : W.heap[b]? = some o) : b < W.heap.size := (Array.getElem?_eq_some_iff.1 h).1
theorem LoopW.keep (h : LoopW p w0 I0 E a0 l D r Mm T bs S f W) (hb : Bel S W W') : LoopW p w0 I0 E a0 l D r Mm T bs S f W' := by
  have hT : ∀ b, T b → S b := fun b hb => (h.s b).2 (.inl hb)
  refine ⟨?_, h.s, h.f, ?_, ?_, fun b hT => ?_, h.new, h.ld, h.bel.trans (hb.sub fun b hk => (h.s b).2 (.inr (.inl hk))), h.marks.mono fun b hb1 => ⟨hb1, hb.block b (hT b hb1.1)⟩⟩
  · refine h.st.rebase (hb.sub fun b hk => ?_) _ T (fun b hs => stay_at hs) (fun b hT => ?_) h.st.size rfl (fun t _ => rfl) (fun t => ?_) h.st.henv
    · rcases hk with hk | hk
      · exact hT b (stay_at hk)
      · exact (h.s b).2 (.inr (.inr (.inl hk)))
    · have := h.old b hT
      exact ⟨Nat.lt_of_lt_of_le this.1 hb.size, this.2.1⟩
    · rcases h.st.tmp t with h1 | ⟨h1, _⟩
      · exact .inl h1
      · exact .inr ⟨h1, .inl ⟨rfl, rfl⟩⟩
  · rw [hb.block l ((h.s l).2 (.inr (.inr (.inr (.inl rfl)))))]; exact h.lrec
  · rw [hb.block D ((h.s D).2 (.inr (.inr (.inr (.inr rfl)))))]; exact h.dblk
  · have := h.old b hT
    exact ⟨Nat.lt_of_lt_of_le this.1 hb.size, this.2⟩
theorem LoopW.mut_lt (h : LoopW p w0 I0 E a0 l D r Mm T bs S f W) {b : Nat} (hm : Mut (memOf Mm) bs b) : b < W.heap.size := (h.st.mut_not hm).2
theorem LoopW.sub (h : LoopW p w0 I0 E a0 l D r Mm T bs S f W) (b : Nat) : (f b → S b) ∧ (S b → b < W.heap.size) := by
  refine ⟨fun hf => ?_, fun hs => ?_⟩
  · rcases (h.f b).1 hf with h1 | h1
    · exact (h.s b).2 (.inr (.inr (.inl h1)))
    · exact (h.s b).2 (.inr (.inr (.inr (.inl h1))))
  · rcases (h.s b).1 hs with h1 | h1 | h1 | rfl | rfl
    · exact (h.old b h1).1
    · exact Nat.lt_of_lt_of_le (w0.lt b h1) h.bel.size
    · exact h.mut_lt h1
    · exact lt_of_some h.lrec
    · exact lt_of_some h.dblk
/-- the loop's word, whatever the round -/
def LoopK (p : Prm) (w0 : Base) (I0 : Nat → Prop) (E : List (Nat × AV)) (a0 : Act) (l D : Nat) (rc : LoopState → Option Code → Loop) (X : List (Nat × Ob) → Nat → LoopState → Option Code → Prop) (S f : Nat → Prop) (k : Nat) (W : World) : Prop :=
  ∃ Mm stt pend T bs, X Mm k stt pend ∧ LoopW p w0 I0 E a0 l D (rc stt pend) Mm T bs S f W
theorem LoopK.keeper (rc : LoopState → Option Code → Loop) (X : List (Nat × Ob) → Nat → LoopState → Option Code → Prop) : Keeper (LoopK p w0 I0 E a0 l D rc X) :=
  ⟨fun _ _ _ _ _ ⟨Mm, stt, pend, T, bs, hx, h⟩ hb => ⟨Mm, stt, pend, T, bs, hx, h.keep hb⟩, fun _ _ _ _ ⟨_, _, _, _, _, _, h⟩ b => h.sub b⟩
theorem envOf_mem (E : List (Nat × AV)) (t : Nat) : envOf E t = .junk ∨ t ∈ E.map (·.1) := by
  rcases envOf_cases E t with h | ⟨e, h1, h2, _⟩
  · exact .inl h
  · exact .inr (List.mem_map.2 ⟨e, h1, h2⟩)
/-- a round -/
theorem loop_round {n : Nat} (hTB : TBok p.P p.TB) (hG : ∀ w, Bel w0.K w0.w w → p.G w) (hmix : p.P.follows .mixedOrders = true) {ps : List Nat} {ds : List eng.D} {vs : List Value} {I' : Nat → Prop} {fn : FuncId} {assign body : Code}
    (h : LoopW p w0 I0 E a0 l D ⟨.ready, none, fn, a0.tmps, ps.toArray, assign, body, D⟩ Mm T bs S f W) (ha : codeOk assign = true) (hb : codeOk body = true) (hna : noDef assign = true) (hnb : noDef body = true)
    (hI : ∀ b, I' b → b < W.heap.size ∧ ¬ f b ∧ b ≠ D ∧ (w0.K b → I0 b)) (hv : Rel2 (fun y d => Den W I' y d) vs ds) (hl : ds.length = ps.length) (hps : ∀ q, q ∈ ps → q < p.nt.n ∧ q ∉ E.map (·.1)) {Qb : Post} (hQb : NoOut Qb)
    (hsp : sp (prmR p E) assign (spThen (fun env1 mem1 => sp (prmR p E) body Qb env1 mem1) (fun _ _ _ => False)) (envPs ps ds (envOf E)) (memOf Mm))
    {R : Ending → World → Prop} {Z : Option Code → List (Nat × Ob) → Prop}
    (hR : ∀ jump M' w', Z jump M' → (∃ T' bs' S' f', Step S f I' W w' S' f' ∧ LoopW p w0 I0 E a0 l D ⟨if jump.isNone then .ready else .done, jump, fn, a0.tmps, ps.toArray, assign, body, D⟩ M' T' bs' S' f' w') → R (.returned (.bool jump.isNone)) w')
    (hQe : ∀ e env mem, Qb e env mem → ∃ M', entail env mem E M' ∧ ((e = .normal ∧ Z none M') ∨ (e = .ret ∧ Z (some .ret) M') ∨ ∃ id, e = .exit id ∧ Z (some (.exit id)) M')) :
    YieldAt Fence.wide n p.P l vs.toArray W R := by
  have hlen : vs.length = ps.length := hv.1.trans hl
  obtain ⟨hz1, hz2⟩ := ps_ok (I := I') ps ds vs a0.tmps (envOf E) hv hl (fun q hq => by rw [show a0.tmps.size = p.nt.n from h.st.size]; exact (hps q hq).1)
  refine ⟨fn, _, assign, body, run_yield h.lrec (by simpa using hlen), ?_⟩
  have ez : (Array.zip ps.toArray vs.toArray).foldl (fun (t : Array Value) (x : Nat × Value) => t.setIfInBounds x.1 x.2) a0.tmps = (ps.zip vs).foldl (fun (t : Array Value) (x : Nat × Value) => t.setIfInBounds x.1 x.2) a0.tmps := by
    rw [List.zip_toArray, List.foldl_toArray]
  refine roundIn_of_wpIn trivial ?_
  show assign.wpIn (rF l) n p.P _ { tmps := (Array.zip ps.toArray vs.toArray).foldl (fun (t : Array Value) (x : Nat × Value) => t.setIfInBounds x.1 x.2) a0.tmps, defers := [] } W
  rw [ez]
  clear ez
  generalize (ps.zip vs).foldl (fun (t : Array Value) (x : Nat × Value) => t.setIfInBounds x.1 x.2) a0.tmps = tm at hz1 hz2 ⊢
  -- the round's beginning
  have hTI : ∀ b, T b ∨ I' b → b < W.heap.size ∧ ¬ Mut (memOf Mm) bs b ∧ b ≠ l ∧ b ≠ D ∧ (w0.K b → I0 b) := by
    intro b hb
    rcases hb with hb | hb
    · exact h.old b hb
    · have h1 := hI b hb
      exact ⟨h1.1, fun hm => h1.2.1 ((h.f b).2 (.inl hm)), fun e => h1.2.1 ((h.f b).2 (.inr e)), h1.2.2⟩
  have st0 : St (Base.at W (memOf Mm) bs fun t => a0.tmps.getD t undef) (fun b => T b ∨ I' b) (prmR p E).nt (envPs ps ds (envOf E)) (memOf Mm) bs { tmps := tm, defers := [] } W := by
    refine h.st.rebase (Bel.refl _ _) _ _ (fun b hs => .inl (stay_at hs)) (fun b hb => ⟨(hTI b hb).1, (hTI b hb).2.1⟩) (hz1.trans h.st.size) rfl (fun t ht => ?_) (fun t => ?_) (fun t o ho => ?_)
    · rcases hz2 t with ⟨_, _, h3⟩ | ⟨h1, _⟩
      · exact h3
      · exact absurd ht (hps t h1).2
    · rcases hz2 t with ⟨_, h2, h3⟩ | ⟨h1, d, h2, h3⟩
      · rcases h.st.tmp t with h4 | ⟨h4, _⟩
        · exact .inl (h2.trans h4)
        · exact .inr ⟨h4, .inl ⟨h2, h3⟩⟩
      · refine .inr ⟨(hps t h1).1, .inr ?_⟩
        rw [h2]
        exact Den.mono (fun b hb => ⟨.inl ⟨.inr hb, (hTI b (.inr hb)).1, (hTI b (.inr hb)).2.1⟩, rfl⟩) h3
    · rcases hz2 t with ⟨_, h2, _⟩ | ⟨_, d, h2, _⟩
      · rw [h2] at ho; exact h.st.henv t o ho
      · rw [h2] at ho; simp [AV.hs, eng.S.hs, C.hs] at ho
  have hk0 : ∀ b, w0.K b → (Base.at W (memOf Mm) bs fun t => a0.tmps.getD t undef).K b := fun b hk => ⟨Nat.lt_of_lt_of_le (w0.lt b hk) h.bel.size, fun hm => (h.new b hm).1 hk⟩
  have hlK : (Base.at W (memOf Mm) bs fun t => a0.tmps.getD t undef).K l := ⟨lt_of_some h.lrec, fun hm => (h.new l hm).2.1 rfl⟩
  have hDK : (Base.at W (memOf Mm) bs fun t => a0.tmps.getD t undef).K D := ⟨lt_of_some h.dblk, fun hm => (h.new D hm).2.2 rfl⟩
  have hl0 : ¬ w0.K l := fun hk => by have := w0.lt l hk; have := h.ld.2.1; omega
  refine wpIn_mono (sp_soundIn (p := prmR p E) hTB (fun w hw => hG w (h.bel.trans (hw.sub hk0))) hmix assign ha hna _ (NoOut.then fun _ _ hq => hq) _ _ bs _ _ hsp st0) ?_
  rintro e a1 w1 ⟨env1, mem1, bs1, st1, hq1⟩
  cases e with
  | normal =>
    have hr1 : w1.heap[l]? = _ := (st1.below.block l hlK).trans h.lrec
    refine ⟨_, run_beginRound hr1 rfl, ?_⟩
    have hd1 : a1.defers = [] := st1.defers rfl
    have hm1 : ∀ b, Mut mem1 bs1 b → Mut (memOf Mm) bs b ∨ W.heap.size ≤ b := fun b hm => mut_from st1 hm
    have hlS : ¬ (Stay (Base.at W (memOf Mm) bs fun t => a0.tmps.getD t undef) (fun b => T b ∨ I' b) mem1 bs1 w1 l ∨ Mut mem1 bs1 l) := by
      rintro (hs | hs)
      · rcases hs with ⟨hs, _⟩ | ⟨hs, _⟩
        · exact (hTI l hs).2.2.1 rfl
        · exact hs hlK
      · exact (st1.mut_not hs).1 hlK
    have st2 : St (Base.at (w1.putObj l (.loop ⟨.busy, none, fn, a0.tmps, ps.toArray, assign, body, D⟩)) mem1 bs1 fun t => a0.tmps.getD t undef) (Stay (Base.at W (memOf Mm) bs fun t => a0.tmps.getD t undef) (fun b => T b ∨ I' b) mem1 bs1 w1) (prmR p E).nt env1 mem1 bs1 a1 (w1.putObj l (.loop ⟨.busy, none, fn, a0.tmps, ps.toArray, assign, body, D⟩)) := by
      refine st1.rebase (bel_putObj hlS) _ _ (fun b hs => hs) (fun b hs => by rw [World.putObj_size]; exact st1.stay_not hs) st1.size hd1 (fun t ht => st1.pin t ht) (fun t => ?_) st1.henv
      rcases st1.tmp t with h4 | ⟨h4, _⟩
      · exact .inl h4
      · exact .inr ⟨h4, .inl ⟨rfl, rfl⟩⟩
    have hq1' : sp (prmR p E) body Qb env1 mem1 := hq1
    have hk1 : ∀ b, (Base.at W (memOf Mm) bs fun t => a0.tmps.getD t undef).K b → (Base.at (w1.putObj l (.loop ⟨.busy, none, fn, a0.tmps, ps.toArray, assign, body, D⟩)) mem1 bs1 fun t => a0.tmps.getD t undef).K b := fun b hk => by
      refine ⟨?_, fun hm => (st1.mut_not hm).1 hk⟩
      show b < (w1.putObj l _).heap.size
      rw [World.putObj_size]
      exact Nat.lt_of_lt_of_le hk.1 st1.below.size
    have hbW : ∀ w, Bel (Base.at (w1.putObj l (.loop ⟨.busy, none, fn, a0.tmps, ps.toArray, assign, body, D⟩)) mem1 bs1 fun t => a0.tmps.getD t undef).K (w1.putObj l (.loop ⟨.busy, none, fn, a0.tmps, ps.toArray, assign, body, D⟩)) w →
        Bel (fun b => b < W.heap.size ∧ ¬ f b) W w := fun w hw => by
      have hx : ∀ b, b < W.heap.size ∧ ¬ f b → (Base.at W (memOf Mm) bs fun t => a0.tmps.getD t undef).K b := fun b hb => ⟨hb.1, fun hm => hb.2 ((h.f b).2 (.inl hm))⟩
      exact ((st1.below.sub hx).trans (bel_putObj fun hb => hb.2 ((h.f l).2 (.inr rfl)))).trans (hw.sub fun b hb => hk1 b (hx b hb))
    have hf0 : ∀ b, w0.K b → b < W.heap.size ∧ ¬ f b := fun b hk => ⟨(hk0 b hk).1, fun hf => by
      rcases (h.f b).1 hf with h1 | rfl
      · exact (h.new b h1).1 hk
      · exact hl0 hk⟩
    refine wpIn_mono (sp_soundIn (p := prmR p E) hTB (fun w hw => hG w (h.bel.trans ((hbW w hw).sub hf0))) hmix body hb hnb _ hQb _ _ bs1 _ _ hq1' st2) ?_
    rintro e a3 w3 ⟨env3, mem3, bs3, st3, hq3⟩
    obtain ⟨M', hent, he⟩ := hQe e env3 mem3 hq3
    obtain ⟨bs4, st4⟩ := entail_sound st3 hent
    have hd3 : a3.defers = [] := st3.defers rfl
    have hr3 : w3.heap[l]? = some (.loop ⟨.busy, none, fn, a0.tmps, ps.toArray, assign, body, D⟩) := (st3.below.block l (hk1 l hlK)).trans (World.putObj_heap_same (lt_of_some hr1))
    have hend : ∀ jump : Option Code, ∃ T' bs' S' f', Step S f I' W (w3.putObj l (.loop ⟨if jump.isNone then .ready else .done, jump, fn, a0.tmps, ps.toArray, assign, body, D⟩)) S' f' ∧
        LoopW p w0 I0 E a0 l D ⟨if jump.isNone then .ready else .done, jump, fn, a0.tmps, ps.toArray, assign, body, D⟩ M' T' bs' S' f' (w3.putObj l (.loop ⟨if jump.isNone then .ready else .done, jump, fn, a0.tmps, ps.toArray, assign, body, D⟩)) := by
      intro jump
      generalize hrc : (Loop.mk (if jump.isNone then .ready else .done) jump fn a0.tmps ps.toArray assign body D) = rc
      have hmut : ∀ b, Mut (memOf M') bs4 b → Mut (memOf Mm) bs b ∨ W.heap.size ≤ b := fun b hm => by
        rcases mut_from st4 hm with h1 | h1
        · exact hm1 b h1
        · rw [World.putObj_size] at h1
          exact .inr (Nat.le_trans st1.below.size h1)
      have hstay : ∀ b, Stay (Base.at (w1.putObj l (.loop ⟨.busy, none, fn, a0.tmps, ps.toArray, assign, body, D⟩)) mem1 bs1 fun t => a0.tmps.getD t undef) (Stay (Base.at W (memOf Mm) bs fun t => a0.tmps.getD t undef) (fun b => T b ∨ I' b) mem1 bs1 w1) (memOf M') bs4 w3 b →
          (T b ∨ I' b) ∨ Mut (memOf Mm) bs b ∨ W.heap.size ≤ b := fun b hs => by
        rcases stay_from hs with h1 | h1 | h1
        · exact stay_from h1
        · exact .inr (hm1 b h1)
        · rw [World.putObj_size] at h1
          exact .inr (.inr (Nat.le_trans st1.below.size h1))
      have hll := lt_of_some h.lrec
      have hDl := lt_of_some h.dblk
      have hlS4 : ¬ (Stay (Base.at (w1.putObj l (.loop ⟨.busy, none, fn, a0.tmps, ps.toArray, assign, body, D⟩)) mem1 bs1 fun t => a0.tmps.getD t undef) (Stay (Base.at W (memOf Mm) bs fun t => a0.tmps.getD t undef) (fun b => T b ∨ I' b) mem1 bs1 w1) (memOf M') bs4 w3 l ∨ Mut (memOf M') bs4 l) := by
        rintro (hs | hs)
        · rcases hstay l hs with h1 | h1 | h1
          · exact (hTI l h1).2.2.1 rfl
          · exact (h.new l h1).2.1 rfl
          · omega
        · rcases hmut l hs with h1 | h1
          · exact (h.new l h1).2.1 rfl
          · omega
      refine ⟨Stay (Base.at (w1.putObj l (.loop ⟨.busy, none, fn, a0.tmps, ps.toArray, assign, body, D⟩)) mem1 bs1 fun t => a0.tmps.getD t undef) (Stay (Base.at W (memOf Mm) bs fun t => a0.tmps.getD t undef) (fun b => T b ∨ I' b) mem1 bs1 w1) (memOf M') bs4 w3, bs4, _, _,
        ⟨(hbW w3 st3.below).trans (bel_putObj fun hb => hb.2 ((h.f l).2 (.inr rfl))), ?_, ?_⟩, ?_, fun _ => Iff.rfl, fun _ => Iff.rfl, World.putObj_heap_same (lt_of_some hr3), ?_, ?_, ?_, h.ld, ?_, ?_⟩
      · rintro b (hb | hb | hb | hb | hb)
        · rcases hstay b hb with (h1 | h1) | h1 | h1
          · exact .inl ((h.s b).2 (.inl h1))
          · exact .inr (.inl h1)
          · exact .inl ((h.s b).2 (.inr (.inr (.inl h1))))
          · exact .inr (.inr h1)
        · exact .inl ((h.s b).2 (.inr (.inl hb)))
        · rcases hmut b hb with h1 | h1
          · exact .inl ((h.s b).2 (.inr (.inr (.inl h1))))
          · exact .inr (.inr h1)
        · exact .inl ((h.s b).2 (.inr (.inr (.inr (.inl hb)))))
        · exact .inl ((h.s b).2 (.inr (.inr (.inr (.inr hb)))))
      · rintro b (hb | hb)
        · rcases hmut b hb with h1 | h1
          · exact .inl ((h.f b).2 (.inl h1))
          · exact .inr h1
        · exact .inl ((h.f b).2 (.inr hb))
      · refine st4.rebase (bel_putObj hlS4) _ _ (fun b hs => hs) (fun b hs => by rw [World.putObj_size]; exact st4.stay_not hs) h.st.size rfl (fun t _ => rfl) (fun t => ?_) st4.henv
        rcases envOf_mem E t with h1 | h1
        · exact .inl h1
        · rcases st4.tmp t with h4 | ⟨h4, _⟩
          · exact .inl h4
          · exact .inr ⟨h4, .inl ⟨rfl, (st4.pin t h1).symm⟩⟩
      · rw [World.putObj_heap_other h.ld.1.symm]
        exact ((st3.below.block D (hk1 D hDK)).trans ((World.putObj_heap_other h.ld.1.symm).trans (st1.below.block D hDK))).trans h.dblk
      · intro b hs
        have h1 := st4.stay_not hs
        rw [World.putObj_size]
        refine ⟨h1.1, h1.2, ?_⟩
        rcases hstay b hs with h2 | h2 | h2
        · exact (hTI b h2).2.2
        · have := h.new b h2
          exact ⟨this.2.1, this.2.2, fun hk => absurd hk this.1⟩
        · refine ⟨by omega, by omega, fun hk => ?_⟩
          have := (hf0 b hk).1
          omega
      · intro b hm
        rcases hmut b hm with h1 | h1
        · exact h.new b h1
        · refine ⟨fun hk => ?_, by omega, by omega⟩
          have := (hf0 b hk).1
          omega
      · exact h.bel.trans ((((hbW w3 st3.below).trans (bel_putObj fun hb => hb.2 ((h.f l).2 (.inr rfl)))).sub hf0))
      · refine h.marks.mono fun b hb => ?_
        have hnm : b ≠ l := (h.old b hb.1).2.2.1
        have hKb : (Base.at W (memOf Mm) bs fun t => a0.tmps.getD t undef).K b := ⟨(h.old b hb.1).1, (h.old b hb.1).2.1⟩
        refine ⟨⟨.inl ⟨.inl ⟨.inl hb.1, hKb⟩, hk1 b hKb⟩, hb.2⟩, ?_⟩
        rw [World.putObj_heap_other hnm, st3.below.block b (hk1 b hKb)]
        exact (World.putObj_heap_other hnm).trans (st1.below.block b hKb)
    rcases he with ⟨rfl, hz⟩ | ⟨rfl, hz⟩ | ⟨id, rfl, hz⟩
    · exact ⟨_, _, run_endRound none hr3, hR none M' _ hz (hend none)⟩
    · exact ⟨_, _, run_endRound (some .ret) hr3, hR (some .ret) M' _ hz (hend (some .ret))⟩
    · exact ⟨_, _, run_endRound (some (.exit id)) hr3, hR (some (.exit id)) M' _ hz (hend (some (.exit id)))⟩
  | exit id => exact hq1.elim
  | goto t => exact hq1.elim
  | ret => exact hq1.elim
  | panic ch => exact hq1.elim
  | outgrown => exact hq1.elim
/-- the loop is left -/
theorem LoopW.leave (h : LoopW p w0 I0 E a0 l D r Mm T bs S f W) (hmk : p.nt.marks = true) (hpin : p.nt.pins = []) (o : Obj) :
    St w0 I0 p.nt (envOf E) (memOf Mm) bs { a0 with defers := { target := .collected D, args := #[] } :: a0.defers } (W.putObj l o) := by
  have hlT : ¬ (Stay (Base.at W (memOf Mm) bs fun t => a0.tmps.getD t undef) T (memOf Mm) bs W l ∨ Mut (memOf Mm) bs l) := by
    rintro (hs | hs)
    · exact (h.old l (stay_at hs)).2.2.1 rfl
    · exact (h.new l hs).2.1 rfl
  have hT : ∀ b, T b ∨ b = D → b < (W.putObj l o).heap.size ∧ ¬ Mut (memOf Mm) bs b := by
    intro b hb
    rw [World.putObj_size]
    rcases hb with hb | rfl
    · exact ⟨(h.old b hb).1, (h.old b hb).2.1⟩
    · exact ⟨lt_of_some h.dblk, fun hm => (h.new b hm).2.2 rfl⟩
  have hl0 : ¬ w0.K l := fun hk => by have := w0.lt l hk; have := h.ld.2.1; omega
  have hD0 : ¬ w0.K D := fun hk => by have := w0.lt D hk; have := h.ld.2.2; omega
  have st : St (Base.at (W.putObj l o) (memOf Mm) bs fun t => a0.tmps.getD t undef) (fun b => T b ∨ b = D) p.nt (envOf E) (memOf Mm) bs { a0 with defers := [] } (W.putObj l o) := by
    refine h.st.rebase (bel_putObj hlT) _ _ (fun b hs => .inl (stay_at hs)) hT h.st.size rfl (fun t ht => by simp [hpin] at ht) (fun t => ?_) h.st.henv
    rcases h.st.tmp t with h4 | ⟨h4, _⟩
    · exact .inl h4
    · exact .inr ⟨h4, .inl ⟨rfl, rfl⟩⟩
  refine st.back (h.bel.trans (bel_putObj hl0)) hT (fun b hb hk => ?_) (fun b hm => (h.new b hm).1) hpin rfl (fun e => by simp [hmk] at e) ⟨List.pairwise_cons.2 ⟨fun d hd e => ?_, h.marks.1⟩, fun d hd => ?_⟩
  · rcases hb with hb | rfl
    · exact (h.old b hb).2.2.2.2 hk
    · exact absurd hk hD0
  · obtain ⟨D', e', hD', _⟩ := h.marks.2 d hd
    rw [← e] at e'
    have : D = D' := by simpa using e'
    subst this
    exact (h.old D hD'.1).2.2.2.1 rfl
  · rcases List.mem_cons.1 hd with rfl | hd
    · exact ⟨D, rfl, ⟨.inr rfl, hD0⟩, (World.putObj_heap_other h.ld.1.symm).trans h.dblk⟩
    · obtain ⟨D', e', hD', h3⟩ := h.marks.2 d hd
      exact ⟨D', e', ⟨.inl hD'.1, hD'.2⟩, (World.putObj_heap_other (h.old D' hD'.1).2.2.1).trans h3⟩
theorem alloc_old {w : World} {o : Obj} {b : Nat} (h : b < w.heap.size) : (w.alloc o).heap[b]? = w.heap[b]? := by
  show (w.heap.push o)[b]? = _
  rw [Array.getElem?_push]
  simp [Nat.ne_of_lt h]
theorem rel2_world {w w1 : World} {I : Nat → Prop} {vs : List Value} {caps : List AV} (hI : ∀ b, I b → w1.heap[b]? = w.heap[b]?) (h : Rel2 (fun y v => DenAV w I noBs noMem y v) vs caps) : Rel2 (fun y v => DenAV w1 I noBs noMem y v) vs caps :=
  ⟨h.1, fun j c y hc hy => (Keeps.mk (H := fun _ => True) (fun b hb => ⟨hb, hI b hb⟩) (fun _ _ _ _ => rfl) (fun _ T _ _ xs own _ hm => ⟨T, xs, own, hm, rfl⟩)).av (fun _ _ => trivial) (h.2 j c y hc hy)⟩
/-- a loop over an iterator -/
theorem range_sound {n : Nat} (hTB : TBok p.P p.TB) (hG : ∀ w, Bel w0.K w0.w w → p.G w) (hmix : p.P.follows .mixedOrders = true) (hmk : p.nt.marks = true) (hpin : p.nt.pins = []) {g : Operand} {ps : Array Nat} {assign body : Code} {Q : Post}
    {env : Env} {mem : Mem} {bs : Bs} {a : Act} {w : World} (h : spRange p g ps.toList assign body Q env mem) (st : St w0 I0 p.nt env mem bs a w) : (Code.rangeFunc g ps assign body).wpIn Fence.wide n p.P (Like p w0 I0 Q) a w := by
  obtain ⟨hc, gf, caps, elems, E, ι, M, R, i0, hg, hseq, hlen, hps, hent, hR0, hround, hend⟩ := h
  simp only [Bool.and_eq_true] at hc
  obtain ⟨⟨⟨hna, hnb⟩, ha⟩, hb⟩ := hc
  obtain ⟨bs1, st1⟩ := entail_sound st hent
  obtain ⟨hgd, _⟩ := opd_den st1 (fun _ => .inr rfl) g
  rw [hg] at hgd
  obtain ⟨cs, ef, hcs⟩ := fn_caps hgd
  refine wpIn_rangeFunc fun fn _ => ?_
  let w1 : World := (w.alloc (.deferred (some []))).alloc (.loop ⟨.ready, none, fn, a.tmps, ps, assign, body, w.heap.size⟩)
  have hsz : w1.heap.size = w.heap.size + 2 := by simp [w1]
  have hold : ∀ b, b < w.heap.size → w1.heap[b]? = w.heap[b]? := fun b hb => (alloc_old (by simp; omega)).trans (alloc_old hb)
  have hbel : Bel (fun b => b < w.heap.size) w w1 := ⟨rfl, rfl, rfl, by omega, hold⟩
  have hTw : ∀ b, Stay w0 I0 (memOf (M i0)) bs1 w b → b < w.heap.size := fun b hs => (st1.stay_not hs).1
  have hTK : ∀ b, Stay w0 I0 (memOf (M i0)) bs1 w b → w0.K b → I0 b := fun b hs hk => by
    rcases hs with ⟨h1, _⟩ | ⟨h1, _⟩
    · exact h1
    · exact absurd hk h1
  have hw1 : LoopW p w0 I0 E a (w.heap.size + 1) w.heap.size ⟨.ready, none, fn, a.tmps, ps.toList.toArray, assign, body, w.heap.size⟩ (M i0) (Stay w0 I0 (memOf (M i0)) bs1 w) bs1
      (fun b => Stay w0 I0 (memOf (M i0)) bs1 w b ∨ w0.K b ∨ Mut (memOf (M i0)) bs1 b ∨ b = w.heap.size + 1 ∨ b = w.heap.size) (fun b => Mut (memOf (M i0)) bs1 b ∨ b = w.heap.size + 1) w1 := by
    refine ⟨?_, fun _ => Iff.rfl, fun _ => Iff.rfl, ?_, ?_, fun b hs => ?_, fun b hm => ?_, ?_, st1.below.trans (hbel.sub fun b hk => st1.ltK hk), st1.marks.mono fun b hb => ⟨hb, hold b (hTw b hb.1)⟩⟩
    · refine st1.rebase (hbel.sub fun b hk => ?_) _ _ (fun b hs => hs) (fun b hs => ⟨?_, (st1.stay_not hs).2⟩) st1.size rfl (fun _ _ => rfl) (fun t => ?_) st1.henv
      · rcases hk with hk | hk
        · exact hTw b hk
        · exact (st1.mut_not hk).2
      · have := hTw b hs; omega
      · rcases st1.tmp t with h4 | ⟨h4, _⟩
        · exact .inl h4
        · exact .inr ⟨h4, .inl ⟨rfl, rfl⟩⟩
    · have := World.alloc_heap_new (w.alloc (.deferred (some []))) (.loop ⟨.ready, none, fn, a.tmps, ps, assign, body, w.heap.size⟩)
      rw [World.size_alloc] at this
      exact this
    · exact (alloc_old (by simp)).trans (World.alloc_heap_new w _)
    · have h1 := hTw b hs
      exact ⟨by omega, (st1.stay_not hs).2, by omega, by omega, hTK b hs⟩
    · have h1 := st1.mut_not hm
      exact ⟨h1.1, by omega, by omega⟩
    · have := st1.below.size
      exact ⟨by omega, by omega, by omega⟩
  have hf0 : ∀ b, w0.K b → b < w1.heap.size ∧ ¬ (Mut (memOf (M i0)) bs1 b ∨ b = w.heap.size + 1) := fun b hk => by
    have h1 := st1.ltK hk
    refine ⟨by omega, ?_⟩
    rintro (hm | hm)
    · exact (st1.mut_not hm).1 hk
    · omega
  let rc : LoopState → Option Code → Loop := fun s q => ⟨s, q, fn, a.tmps, ps.toList.toArray, assign, body, w.heap.size⟩
  let J := LoopK p w0 I0 E a (w.heap.size + 1) w.heap.size rc fun Mm k stt pend => ∃ i, Mm = M i ∧ R i k ∧ stt = .ready ∧ pend = none
  let Jx := LoopK p w0 I0 E a (w.heap.size + 1) w.heap.size rc fun Mm _ stt pend => stt = .done ∧ ((pend = some .ret ∧ Q .ret (envOf E) (memOf Mm)) ∨ ∃ id, pend = some (.exit id) ∧ Q (.exit id) (envOf E) (memOf Mm))
  have hcall := hseq.2 (n - 1) (w.heap.size + 1) J Jx _ _ w1 (Stay w0 I0 (memOf (M i0)) bs1 w) cs (LoopK.keeper _ _) (LoopK.keeper _ _) ⟨M i0, .ready, none, _, bs1, ⟨i0, rfl, hR0, rfl, rfl⟩, hw1⟩
    (fun w' hw' => hG w' (hw1.bel.trans (hw'.sub hf0)))
    (fun b hs => by
      have h1 := hTw b hs
      refine ⟨by omega, ?_⟩
      rintro (hm | hm)
      · exact (st1.stay_not hs).2 hm
      · omega)
    (rel2_world (fun b hs => hold b (hTw b hs)) hcs)
    (fun S f k W' I' vs ds hJ hk hI' hvs => by
      obtain ⟨Mm, stt, pend, T, bs2, ⟨i, rfl, hRi, rfl, rfl⟩, hw⟩ := hJ
      have hw : LoopW p w0 I0 E a (w.heap.size + 1) w.heap.size ⟨.ready, none, fn, a.tmps, ps.toList.toArray, assign, body, w.heap.size⟩ (M i) T bs2 S f W' := hw
      refine loop_round (Z := fun jump M' => (jump = none ∧ ∃ j, M' = M j ∧ R j (k + 1)) ∨ (jump = some .ret ∧ Q .ret (envOf E) (memOf M')) ∨ ∃ id, jump = some (.exit id) ∧ Q (.exit id) (envOf E) (memOf M')) hTB hG hmix hw ha hb hna hnb
        (fun b hb => ?_) hvs (hlen ds (List.mem_of_getElem? hk)) hps (Qb := qBody E M R k Q) (fun _ _ hq => hq) (hround i k ds hk hRi) (fun jump M' w' hz hs => ?_) (fun e env mem hq => ?_)
      · obtain ⟨h1, h2, h3⟩ := hI' b hb
        refine ⟨h2, h3, ?_, fun hk => ?_⟩
        · rcases h1 with h1 | h1
          · have := hTw b h1; omega
          · omega
        · rcases h1 with h1 | h1
          · exact hTK b h1 hk
          · have := st1.ltK hk; omega
      · obtain ⟨T', bs', S', f', hstep, hw'⟩ := hs
        refine ⟨S', f', hstep, ?_⟩
        rcases hz with ⟨rfl, j, rfl, hj⟩ | ⟨rfl, hq⟩ | ⟨id, rfl, hq⟩
        · exact .inl ⟨rfl, M j, .ready, none, T', bs', ⟨j, rfl, hj, rfl, rfl⟩, hw'⟩
        · exact .inr ⟨rfl, M', .done, some .ret, T', bs', ⟨rfl, .inl ⟨rfl, hq⟩⟩, hw'⟩
        · exact .inr ⟨rfl, M', .done, some (.exit id), T', bs', ⟨rfl, .inr ⟨id, rfl, hq⟩⟩, hw'⟩
      · cases e with
        | normal => obtain ⟨j, h1, h2⟩ := hq; exact ⟨M j, h2, .inl ⟨rfl, .inl ⟨rfl, j, rfl, h1⟩⟩⟩
        | ret => obtain ⟨M', h1, h2⟩ := hq; exact ⟨M', h1, .inr (.inl ⟨rfl, .inr (.inl ⟨rfl, h2⟩)⟩)⟩
        | exit id => obtain ⟨M', h1, h2⟩ := hq; exact ⟨M', h1, .inr (.inr ⟨id, rfl, .inr (.inr ⟨id, rfl, h2⟩)⟩)⟩
        | goto t => exact hq.elim
        | panic ch => exact hq.elim
        | outgrown => exact hq.elim)
  have henter := hseq.1 (#[.func (.yield (w.heap.size + 1)) #[] #[]] ++ cs.toArray) w1
  refine ⟨w.heap.size + 1, [{ target := .collected w.heap.size, args := #[] }], w1, ⟨.fn (.func gf) cs.toArray, #[.func (.yield (w.heap.size + 1)) #[] #[]]⟩, w1, gf, _, w1, run_enterLoop_outer .., ?_, fun _ _ => trivial, henter, fun hd => by simp [Fence.wide] at hd, hcall.mono ?_⟩
  · simp only [resolve, ef, Deferred.ofValue, Sem.run_pure]
    simp [Act.eval]
  · rintro e W' ⟨⟨v, rfl⟩, S', f', hbf, _, hJ | hJ⟩
    · obtain ⟨Mm, stt, pend, T, bs2, ⟨i, rfl, hRi, rfl, rfl⟩, hw⟩ := hJ
      refine ⟨none, _, run_endLoop hw.lrec (by simp [rc]), ?_⟩
      exact ⟨_, _, bs2, hw.leave hmk hpin _, hend i hRi⟩
    · obtain ⟨Mm, stt, pend, T, bs2, ⟨rfl, hz⟩, hw⟩ := hJ
      rcases hz with ⟨rfl, hq⟩ | ⟨id, rfl, hq⟩
      · exact ⟨some .ret, _, run_endLoop hw.lrec (by simp [rc]), wpIn_ret ⟨_, _, bs2, hw.leave hmk hpin _, hq⟩⟩
      · exact ⟨some (.exit id), _, run_endLoop hw.lrec (by simp [rc]), wpIn_exit ⟨_, _, bs2, hw.leave hmk hpin _, hq⟩⟩
end
end Go.Proofs.Ytobeklcimmjodaa.eng
