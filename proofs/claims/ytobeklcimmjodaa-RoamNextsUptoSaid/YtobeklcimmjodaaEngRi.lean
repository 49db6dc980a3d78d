/- The engine, no program: an iterator: a function that calls yield. -/
import Derived.Test.YtobeklcimmjodaaEngRh
namespace Go.Proofs.Ytobeklcimmjodaa.eng
open Go.RowKit mem
section
variable {P : Program} {n : Nat} {Q : Exit → Act → World → Prop}
theorem op_wide {o : Oper} {a : Act} {w : World} {K K0 : Act → World → Prop} (h : o.wp P a w K (Exit.then K0 fun _ _ _ => False)) : o.wpIn Fence.wide n P a w K Q := by
  refine ⟨fun _ _ => trivial, ?_⟩
  show o.uponIn Fence.wide n P a K Q ((execOp a.eval o).run P w)
  unfold Oper.wp at h
  generalize (execOp a.eval o).run P w = r at h
  unfold Oper.upon at h
  split at h
  · exact h
  · exact h
  · exact h
  · refine ⟨fun hd => by simp [Fence.wide] at hd, ?_⟩
    refine CallsIn.mono (callsIn_wide.2 h) fun e w' he => ?_
    cases e with
    | returned v => exact he
    | panicked c => exact he.elim
    | outgrown => obtain ⟨_, _, hq⟩ := he; exact hq.elim
  · refine ⟨fun hd => by simp [Fence.wide] at hd, ?_⟩
    intro c cs _
    obtain ⟨v, w', hr, hs⟩ := h c cs
    exact ⟨v, w', hr, stepsIn_wide.2 hs⟩
  · exact h.elim
  · exact h.elim
theorem wpList_app {ops : Array Oper} {rest : List Oper} {K : Act → World → Prop} (hK : ∀ a w, K a w → wpListIn Fence.wide n P ops Q rest a w) : ∀ (os : List Oper) (a : Act) (w : World), wpList P ops (Exit.then K fun _ _ _ => False) os a w → wpListIn Fence.wide n P ops Q (os ++ rest) a w
  | [], a, w, h => hK a w h
  | o :: os, a, w, h => by
    rw [List.cons_append]
    unfold wpList at h
    unfold wpListIn
    split at h
    · rename_i hw
      rw [if_pos hw]
      rcases h with h | ⟨_, _, _, h⟩
      · exact op_wide (Oper.wp_mono (fun a w h => wpList_app hK os a w h) h)
      · exact h.elim
    · rename_i hw
      rw [if_neg hw]
      exact ⟨fun _ _ => trivial, wpList_app hK os _ _ h⟩
end
/-- how many have been yielded; none: told to stop -/
abbrev Gh := Option Nat
def hasY (yl : List Nat) (o : Oper) : Bool :=
  match o.dst with
  | some d => memb d yl
  | none => false
noncomputable def splitY (yl : List Nat) (ops : List Oper) : Option (List Oper × Oper × List Oper) :=
  @List.rec Oper (fun _ => Option (List Oper × Oper × List Oper)) none (fun o r ih => match hasY yl o with
    | true => some ([], o, r)
    | false => match ih with
      | some q => some (o :: q.1, q.2.1, q.2.2)
      | none => none) ops
theorem splitY_is {yl : List Nat} : ∀ {ops : List Oper} {q : List Oper × Oper × List Oper}, splitY yl ops = some q → ops = q.1 ++ q.2.1 :: q.2.2
  | [], q, h => by simp [splitY] at h
  | o :: r, q, h => by
    have h : (match hasY yl o with
      | true => some ([], o, r)
      | false => match splitY yl r with
        | some q => some (o :: q.1, q.2.1, q.2.2)
        | none => none) = some q := h
    split at h
    · obtain rfl := Option.some.inj h; rfl
    · split at h
      · rename_i q' hq
        obtain rfl := Option.some.inj h
        rw [splitY_is hq]; rfl
      · simp at h
def frzXs (env : Env) : List Operand → Mem → Mem
  | [], m => m
  | x :: r, m => frzXs env r (match opd env x with
    | .val (.one c) => frzC c m
    | _ => m)
theorem St.frzXs {w0 : Base} {I0 : Nat → Prop} {nt : Shape} {env : Env} {bs : Bs} {a : Act} {w : World} : ∀ (xs : List Operand) {mem : Mem}, St w0 I0 nt env mem bs a w → St w0 I0 nt env (frzXs env xs mem) bs a w
  | [], _, st => st
  | x :: r, mem, st => by
    refine St.frzXs r ?_
    split
    · exact st.frzC _
    · exact st
def dsOf (az : List AV) (ds : List D) : Prop := az = ds.map fun d => .val (.one (.d d))
/-- a call of yield -/
def yieldK (p : Prm) (l : Nat) (elems : List (List D)) (o : Oper) (K : Gh → Env → Mem → Prop) (g : Gh) (env : Env) (mem : Mem) : Prop :=
  match o.op with
  | .call c => match c.callee with
    | .value f => match opd env f with
      | .val (.one (.d (.v (.func (.yield l') first _)))) => first = #[] ∧ (match o.guard with | none => dstOk p.nt o.dst | some _ => false) = true ∧ l' = l ∧
          argAVs false (frzXs env c.args.toList mem) env c.args.toList (fun az => ∃ k ds, g = some k ∧ elems[k]? = some ds ∧ dsOf az ds ∧
            K (some (k + 1)) (putE o.dst (one (.bool true)) env) (frzXs env c.args.toList mem) ∧ K none (putE o.dst (one (.bool false)) env) (frzXs env c.args.toList mem)) False
      | _ => False
    | _ => False
  | _ => False
abbrev PostY := Exit → Gh → Env → Mem → Prop
def thenY (K : Gh → Env → Mem → Prop) (Q : PostY) : PostY
  | .normal, g, env, mem => K g env mem
  | e, g, env, mem => Q e g env mem
def blockY (id : Nat) (Q : PostY) : PostY
  | .exit id', g, env, mem => bif Nat.beq id' id then Q .normal g env mem else Q (.exit id') g env mem
  | e, g, env, mem => Q e g env mem
def loopY (x : PostY → Gh → Env → Mem → Prop) (Q : PostY) (g : Gh) (env : Env) (mem : Mem) : Prop :=
  ∃ (ι : Type) (E : ι → List (Nat × AV)) (M : ι → List (Nat × Ob)) (γ : ι → Gh) (R : ι → Prop) (μ : ι → Nat) (i : ι), entail env mem (E i) (M i) ∧ g = γ i ∧ R i ∧
      ∀ i, R i → x (thenY (fun g' env' mem' => ∃ j, R j ∧ μ j < μ i ∧ g' = γ j ∧ entail env' mem' (E j) (M j)) Q) (γ i) (envOf (E i)) (memOf (M i))
noncomputable def regY (p : Prm) (yl : List Nat) (l : Nat) (elems : List (List D)) (ops : List Oper) (draw : Bool) (Q : PostY) (g : Gh) (env : Env) (mem : Mem) : Prop :=
  match splitY yl ops with
  | none => spRegion p ops draw (fun e env mem => Q e g env mem) env mem
  | some q => draw = false ∧ spOps p ops q.1 [] (fun _ env mem => yieldK p l elems q.2.1 (fun g env mem => spOps p ops q.2.2 [] (fun _ env mem => Q .normal g env mem) env mem) g env mem) env mem
/-- code by data, calls of yield among it -/
noncomputable def spY (p : Prm) (yl : List Nat) (l : Nat) (elems : List (List D)) (c : Code) (Q : PostY) (g : Gh) (env : Env) (mem : Mem) : Prop :=
  @Code.rec (fun _ => PostY → Gh → Env → Mem → Prop)
    (fun Q g env mem => Q .normal g env mem)
    (fun _ ops draw Q g env mem => regY p yl l elems ops.toList draw Q g env mem)
    (fun _ _ x y Q g env mem => x (thenY (y Q) Q) g env mem)
    (fun c _ _ x y Q g env mem => spCond (opd env c) (x Q g env mem) (y Q g env mem))
    (fun id _ x Q g env mem => x (blockY id Q) g env mem)
    (fun _ x Q g env mem => loopY x Q g env mem)
    (fun _ _ _ _ _ _ _ _ _ _ => False)
    (fun id Q g env mem => Q (.exit id) g env mem)
    (fun _ _ _ _ _ _ => False)
    (fun _ _ _ _ _ => False)
    (fun _ _ _ _ _ => False)
    (fun Q g env mem => Q .ret g env mem)
    (fun _ _ _ _ _ => False) c Q g env mem
/-- an iterator under way -/
structure It (Wst : World) (fs I : Nat → Prop) (J Jx : (Nat → Prop) → (Nat → Prop) → Nat → World → Prop) (g : Gh) (b : Base) (T S f : Nat → Prop) : Prop where
  sK : ∀ x, S x → b.K x
  fS : ∀ x, f x → S x
  fT : ∀ x, T x → b.K x → ¬ f x
  tI : ∀ x, T x → b.K x → I x ∨ Wst.heap.size ≤ x
  nK : ∀ x, ¬ b.K x → Wst.heap.size ≤ x
  bel : BelF fs Wst b.w
  ff : ∀ x, f x → fs x ∨ Wst.heap.size ≤ x
  j : match g with
    | some k => J S f k b.w
    | none => Jx S f 0 b.w
def LikeY (nt : Shape) (Wst : World) (fs I : Nat → Prop) (J Jx : (Nat → Prop) → (Nat → Prop) → Nat → World → Prop) (Q : Gh → Env → Mem → Prop) (a : Act) (w : World) : Prop :=
  ∃ g b T S f env mem bs, It Wst fs I J Jx g b T S f ∧ St b T nt env mem bs a w ∧ Q g env mem
/-- what yield does for this loop -/
def Yields (P : Program) (n l : Nat) (Wst : World) (I : Nat → Prop) (elems : List (List D)) (J Jx : (Nat → Prop) → (Nat → Prop) → Nat → World → Prop) : Prop :=
  ∀ S f k W' I' vs ds, J S f k W' → elems[k]? = some ds → (∀ b, I' b → (I b ∨ Wst.heap.size ≤ b) ∧ b < W'.heap.size ∧ ¬ f b) → Rel2 (fun y d => Den W' I' y d) vs ds →
    YieldAt Fence.wide n P l vs.toArray W' fun e W'' => ∃ S' f', Step S f I' W' W'' S' f' ∧ ((e = .returned (.bool true) ∧ J S' f' (k + 1) W'') ∨ (e = .returned (.bool false) ∧ Jx S' f' 0 W''))
section
variable {p : Prm} {Wst : World} {fs I : Nat → Prop} {J Jx : (Nat → Prop) → (Nat → Prop) → Nat → World → Prop} {n l : Nat} {elems : List (List D)}
theorem It.belF {g : Gh} {b : Base} {T S f : Nat → Prop} (h : It Wst fs I J Jx g b T S f) {w : World} (hw : Bel b.K b.w w) : BelF fs Wst w :=
  Bel.trans h.bel (hw.sub fun x hx => Classical.byContradiction fun hn => by have := h.nK x hn; have := hx.1; omega)
theorem roundIn_any {m : Nat} {P : Program} {fn : FuncId} {tmps : Array Value} {assign body : Code} {w : World} {R : Ending → World → Prop} (h : RoundIn Fence.wide n P l fn tmps assign body w R) : RoundIn Fence.wide m P l fn tmps assign body w R :=
  ⟨h.1, fun c cs _ => h.2 c cs (room_wide _)⟩
theorem yield_sound (hJ : Keeper J) (hJx : Keeper Jx) (hy : Yields p.P n l Wst I elems J Jx) (hpin : p.nt.pins = []) (hmk : p.nt.marks = false) {o : Oper} {K : Gh → Env → Mem → Prop} {g : Gh} {b : Base} {T S f : Nat → Prop} {env : Env} {mem : Mem} {bs : Bs} {a : Act} {w : World} {n' : Nat} {Q : Exit → Act → World → Prop}
    (hit : It Wst fs I J Jx g b T S f) (st : St b T p.nt env mem bs a w) (h : yieldK p l elems o K g env mem) :
    o.guard = none ∧ o.wpIn Fence.wide n' p.P a w (fun a' w' => LikeY p.nt Wst fs I J Jx K a' w') Q := by
  unfold yieldK at h
  split at h
  · rename_i c ho
    split at h
    · rename_i fo hf
      split at h
      · rename_i l' first cap hv
        obtain ⟨hfirst, hgd, hl', h⟩ := h
        subst hfirst
        subst hl'
        have hg0 : o.guard = none := by
          cases e : o.guard with
          | none => rfl
          | some q => rw [e] at hgd; simp at hgd
        rw [hg0] at hgd
        have hgd : dstOk p.nt o.dst = true := hgd
        have st1 := st.frzXs c.args.toList
        generalize frzXs env c.args.toList mem = mem1 at h st1
        obtain ⟨h1, _⟩ := opd_den st1 (fun _ => .inr rfl) fo
        rw [hv] at h1
        have ef := den_one h1
        rcases argAVs_sound false st1 (fun _ => .inr rfl) (fun _ => .inr rfl) c.args.toList (fun az => ∃ k ds, g = some k ∧ elems[k]? = some ds ∧ dsOf az ds ∧
            K (some (k + 1)) (putE o.dst (one (.bool true)) env) mem1 ∧ K none (putE o.dst (one (.bool false)) env) mem1) False with ⟨az, e, hl⟩ | e
        · rw [e] at h
          obtain ⟨k, ds, rfl, hk, hds, hK1, hK2⟩ := h
          have hjw : J S f k w := hJ.abide S f k b.w w hit.j (st1.below.sub hit.sK)
          have hsub := hJ.sub S f k w hjw
          have hst1 : ∀ x, Stay b T mem1 bs w x → (I x ∨ Wst.heap.size ≤ x) ∧ x < w.heap.size ∧ ¬ f x := by
            intro x hs
            have h2 := st1.stay_not hs
            rcases hs with ⟨h3, h4⟩ | ⟨h3, _, _⟩
            · exact ⟨hit.tI x h3 h4, h2.1, hit.fT x h3 h4⟩
            · exact ⟨.inr (hit.nK x h3), h2.1, fun hf => h3 (hit.sK x (hit.fS x hf))⟩
          have hmut : ∀ x, Mut mem1 bs x → ¬ b.K x ∧ x < w.heap.size ∧ ¬ S x ∧ ¬ f x := by
            intro x hm
            have h2 := st1.mut_not hm
            exact ⟨h2.1, h2.2, fun hs => h2.1 (hit.sK x hs), fun hs => h2.1 (hit.sK x (hit.fS x hs))⟩
          have hrel := hl noBs noMem
          obtain ⟨fn, tmps, assign, body, hrun, hround⟩ := hy S f k w (Stay b T mem1 bs w) (c.args.toList.map a.eval) ds hjw hk hst1
            ⟨by rw [hrel.1, hds, List.length_map], fun j d y hd hy => hrel.2 j (.val (.one (.d d))) y (by rw [hds, List.getElem?_map, hd]; rfl) hy⟩
          have after : ∀ (g' : Gh) (v : Bool) (S' f' : Nat → Prop) (W'' : World), Step S f (Stay b T mem1 bs w) w W'' S' f' → (∀ x, (f' x → S' x) ∧ (S' x → x < W''.heap.size)) → (match g' with | some k => J S' f' k W'' | none => Jx S' f' 0 W'') →
              K g' (putE o.dst (one (.bool v)) env) mem1 → LikeY p.nt Wst fs I J Jx K (a.put o.dst (.bool v)) W'' := by
            intro g' v S' f' W'' hstep hs' hj hK
            obtain ⟨hb1, hb2, hb3⟩ := hstep
            have st2 : St (Base.at W'' mem1 bs fun _ => undef) (Stay b T mem1 bs w) p.nt env mem1 bs a W'' := by
              refine st1.rebase (Bel.sub hb1 fun x hx => ?_) _ _ (fun x hx => hx) (fun x hx => ⟨Nat.lt_of_lt_of_le (hst1 x hx).2.1 hb1.size, (st1.stay_not hx).2⟩) st1.size (st1.defers hmk) (fun t ht => by simp [hpin] at ht) (fun t => ?_) st1.henv
              · rcases hx with hx | hx
                · exact ⟨(hst1 x hx).2.1, (hst1 x hx).2.2⟩
                · exact ⟨(hmut x hx).2.1, (hmut x hx).2.2.2⟩
              · rcases st1.tmp t with h4 | ⟨h4, _⟩
                · exact .inl h4
                · exact .inr ⟨h4, .inl ⟨rfl, rfl⟩⟩
            have hszW : Wst.heap.size ≤ w.heap.size := Nat.le_trans hit.bel.size st1.below.size
            refine ⟨g', Base.at W'' mem1 bs fun _ => undef, Stay b T mem1 bs w, S', f', _, mem1, bs, ⟨fun x hx => ⟨(hs' x).2 hx, fun hm => ?_⟩, fun x => (hs' x).1, fun x hx _ hf' => ?_, fun x hx _ => (hst1 x hx).1, fun x hx => ?_, ?_, fun x hx => ?_, hj⟩, st_putE st2 hgd (x := .bool v) (v := one (.bool v)) (Den.v (.bool v) rfl) (fun o ho => by simp [AV.hs, eng.S.hs, C.hs, one] at ho), hK⟩
            · have h2 := hmut x hm
              rcases hb2 x hx with h3 | h3 | h3
              · exact h2.2.2.1 h3
              · exact (st1.stay_not h3).2 hm
              · omega
            · rcases hb3 x hf' with h3 | h3
              · exact (hst1 x hx).2.2 h3
              · have := (hst1 x hx).2.1; omega
            · by_cases h3 : x < W''.heap.size
              · by_cases h4 : Mut mem1 bs x
                · exact hit.nK x (hmut x h4).1
                · exact absurd ⟨h3, h4⟩ hx
              · have := hb1.size; omega
            · refine Bel.trans (hit.belF st1.below) (Bel.sub hb1 fun x hx => ⟨by have := hx.1; omega, fun hf => ?_⟩)
              rcases hit.ff x hf with h3 | h3
              · exact hx.2 h3
              · have := hx.1; omega
            · rcases hb3 x hx with h3 | h3
              · exact hit.ff x h3
              · exact .inr (by omega)
          refine ⟨hg0, fun _ _ => trivial, ?_⟩
          show o.uponIn Fence.wide n' p.P a _ Q ((execOp a.eval o).run p.P w)
          have hexec : (execOp a.eval o).run p.P w = .ok (.round l' fn tmps assign body) w := by
            obtain ⟨callee, args, ts⟩ := c
            simp only at hf; subst hf
            simp only [execOp, ho, resolve, ef, Deferred.ofValue, Sem.run_bind, Sem.run_pure, Result.andThen_ok, invoke]
            have e4 : (List.map a.eval args.toList).toArray = Array.map a.eval args := by
              rw [← Array.toList_map, Array.toArray_toList]
            rw [e4] at hrun
            simpa using hrun
          rw [hexec, Oper.uponIn_round]
          refine ⟨fun hd => by simp [Fence.wide] at hd, RoundIn.mono (roundIn_any hround) ?_⟩
          rintro e W'' ⟨S', f', hstep, ⟨rfl, hj⟩ | ⟨rfl, hj⟩⟩
          · exact after (some (k + 1)) true S' f' W'' hstep (hJ.sub S' f' _ W'' hj) hj hK1
          · exact after none false S' f' W'' hstep (hJx.sub S' f' _ W'' hj) hj hK2
        · rw [e] at h; exact h.elim
      · exact h.elim
    · exact h.elim
  · exact h.elim
theorem spY_sound {n' : Nat} {yl : List Nat} (hTB : TBok p.P p.TB) (hG : ∀ w, BelF fs Wst w → p.G w) (hmix : p.P.follows .mixedOrders = true) (hJ : Keeper J) (hJx : Keeper Jx) (hy : Yields p.P n l Wst I elems J Jx) (hpin : p.nt.pins = []) (hmk : p.nt.marks = false) :
    ∀ (c : Code) (_ : codeOk c = true) (Q : PostY) (g : Gh) (b : Base) (T S f : Nat → Prop) (env : Env) (mem : Mem) (bs : Bs) (a : Act) (w : World), spY p yl l elems c Q g env mem → It Wst fs I J Jx g b T S f → St b T p.nt env mem bs a w →
      c.wpIn Fence.wide n' p.P (fun e a w => LikeY p.nt Wst fs I J Jx (Q e) a w) a w := by
  intro c
  induction c with
  | skip => intro _ Q g b T S f env mem bs a w h hit st; exact wpIn_skip ⟨g, b, T, S, f, env, mem, bs, hit, st, h⟩
  | region id ops draw =>
    intro hc Q g b T S f env mem bs a w h hit st
    have h : regY p yl l elems ops.toList draw Q g env mem := h
    unfold regY at h
    split at h
    · exact wpIn_wide.2 (wp_mono (sp_sound (w0 := b) (I0 := T) hTB (fun w hw => hG w (hit.belF hw)) hmix (.region id ops draw) hc _ env mem bs a w h st) fun e a' w' ⟨env', mem', bs', st', hq⟩ => ⟨g, b, T, S, f, env', mem', bs', hit, st', hq⟩)
    · rename_i q hq
      obtain ⟨rfl, hsp⟩ := h
      refine wpIn_region_list ?_
      rw [splitY_is hq]
      obtain ⟨rs, e, m, hr, hk⟩ := run_of_sp _ _ _ _ hsp
      have h1 := run_row (Q := Exit.then (fun a w => ∃ bs, St b T p.nt e m bs a w) fun _ _ _ => False) hTB (fun w hw => hG w (hit.belF hw)) hr st (fun bs a w st' => ⟨bs, st'⟩)
      rw [Array.toArray_toList] at h1
      refine wpList_app ?_ _ _ _ h1
      rintro a1 w1 ⟨bs1, st1⟩
      obtain ⟨hg0, hy1⟩ := yield_sound (n' := n') (Q := fun e a w => LikeY p.nt Wst fs I J Jx (Q e) a w) hJ hJx hy hpin hmk hit st1 hk
      unfold wpListIn
      rw [if_pos (by unfold Region.wanted; rw [hg0])]
      refine Oper.wpIn_mono ?_ hy1
      rintro a2 w2 ⟨g2, b2, T2, S2, f2, env2, mem2, bs2, hit2, st2, h2⟩
      obtain ⟨rs, e, m, hr, hk⟩ := run_of_sp _ _ _ _ h2
      have h3 := run_row (Q := Exit.then (fun a w => ∃ bs, St b2 T2 p.nt e m bs a w) fun _ _ _ => False) hTB (fun w hw => hG w (hit2.belF hw)) hr st2 (fun bs a w st' => ⟨bs, st'⟩)
      rw [Array.toArray_toList] at h3
      have h4 := wpList_app (n := n') (Q := fun e a w => LikeY p.nt Wst fs I J Jx (Q e) a w) (rest := []) (fun a w ⟨bs, st⟩ => ⟨g2, b2, T2, S2, f2, e, m, bs, hit2, st, hk⟩) _ _ _ h3
      rw [List.append_nil] at h4
      exact h4
  | seq x y ihx ihy =>
    intro hc Q g b T S f env mem bs a w h hit st
    simp only [codeOk, Bool.and_eq_true] at hc
    refine wpIn_seq (wpIn_mono (ihx hc.1 _ g b T S f env mem bs a w h hit st) ?_)
    rintro e a' w' ⟨g', b', T', S', f', env', mem', bs', hit', st', hq⟩
    cases e with
    | normal => exact ihy hc.2 Q g' b' T' S' f' env' mem' bs' a' w' hq hit' st'
    | exit id => exact ⟨g', b', T', S', f', env', mem', bs', hit', st', hq⟩
    | goto l => exact ⟨g', b', T', S', f', env', mem', bs', hit', st', hq⟩
    | ret => exact ⟨g', b', T', S', f', env', mem', bs', hit', st', hq⟩
    | panic ch => exact ⟨g', b', T', S', f', env', mem', bs', hit', st', hq⟩
    | outgrown => exact ⟨g', b', T', S', f', env', mem', bs', hit', st', hq⟩
  | cond c x y ihx ihy =>
    intro hc Q g b T S f env mem bs a w h hit st
    simp only [codeOk, Bool.and_eq_true] at hc
    obtain ⟨h1, _⟩ := opd_den st (fun _ => .inr rfl) c
    have h : spCond (opd env c) (spY p yl l elems x Q g env mem) (spY p yl l elems y Q g env mem) := h
    unfold spCond at h
    split at h
    · rename_i t hb
      rw [hb] at h1
      refine wpIn_cond_split (t := t) (den_one h1) (fun ht => ihx hc.1 Q g b T S f env mem bs a w (h.1 ht) hit st) (fun ht => ihy hc.2 Q g b T S f env mem bs a w (h.2 ht) hit st)
    · exact h.elim
  | block id x ih =>
    intro hc Q g b T S f env mem bs a w h hit st
    refine wpIn_block (wpIn_mono (ih hc _ g b T S f env mem bs a w h hit st) ?_)
    rintro e a' w' ⟨g', b', T', S', f', env', mem', bs', hit', st', hq⟩
    cases e with
    | exit id' =>
      simp only [blockY] at hq
      simp only [Exit.inBlock]
      by_cases e : id' = id
      · subst e
        rw [if_pos rfl]
        simp only [Nat.beq_refl, cond_true] at hq
        exact ⟨g', b', T', S', f', env', mem', bs', hit', st', hq⟩
      · rw [if_neg e]
        have : Nat.beq id' id = false := by
          cases h2 : Nat.beq id' id with
          | false => rfl
          | true => exact absurd (Nat.eq_of_beq_eq_true h2) e
        simp only [this, cond_false] at hq
        exact ⟨g', b', T', S', f', env', mem', bs', hit', st', hq⟩
    | normal => exact ⟨g', b', T', S', f', env', mem', bs', hit', st', hq⟩
    | goto l => exact ⟨g', b', T', S', f', env', mem', bs', hit', st', hq⟩
    | ret => exact ⟨g', b', T', S', f', env', mem', bs', hit', st', hq⟩
    | panic ch => exact ⟨g', b', T', S', f', env', mem', bs', hit', st', hq⟩
    | outgrown => exact ⟨g', b', T', S', f', env', mem', bs', hit', st', hq⟩
  | loop x ih =>
    intro hc Q g b T S f env mem bs a w h hit st
    obtain ⟨ι, E, M, γ, R, μ, i, hent, rfl, hR, hround⟩ := h
    obtain ⟨bs', st'⟩ := entail_sound st hent
    refine wpIn_loop_ghost (fun n a w => ∃ i, μ i = n ∧ R i ∧ ∃ b T S f bs, It Wst fs I J Jx (γ i) b T S f ∧ St b T p.nt (envOf (E i)) (memOf (M i)) bs a w) (μ i) ⟨i, rfl, hR, b, T, S, f, bs', hit, st'⟩ ?_
    rintro n a w ⟨i, rfl, hR, b, T, S, f, bs, hit, st⟩
    refine wpIn_mono (ih hc _ _ b T S f _ _ bs a w (hround i hR) hit st) ?_
    rintro e a' w' ⟨g', b', T', S', f', env', mem', bs', hit', st', hq⟩
    cases e with
    | normal =>
      obtain ⟨j, h1, h2, rfl, h3⟩ := hq
      obtain ⟨bs'', st''⟩ := entail_sound st' h3
      exact ⟨μ j, h2, j, rfl, h1, b', T', S', f', bs'', hit', st''⟩
    | exit id => exact ⟨g', b', T', S', f', env', mem', bs', hit', st', hq⟩
    | goto l => exact ⟨g', b', T', S', f', env', mem', bs', hit', st', hq⟩
    | ret => exact ⟨g', b', T', S', f', env', mem', bs', hit', st', hq⟩
    | panic ch => exact ⟨g', b', T', S', f', env', mem', bs', hit', st', hq⟩
    | outgrown => exact ⟨g', b', T', S', f', env', mem', bs', hit', st', hq⟩
  | exit id => intro _ Q g b T S f env mem bs a w h hit st; exact wpIn_exit ⟨g, b, T, S, f, env, mem, bs, hit, st, h⟩
  | ret => intro _ Q g b T S f env mem bs a w h hit st; exact wpIn_ret ⟨g, b, T, S, f, env, mem, bs, hit, st, h⟩
  | rangeFunc f ps ax x _ _ => intro _ Q g b T S f env mem bs a w h; exact h.elim
  | scope x _ => intro _ Q g b T S f env mem bs a w h; exact h.elim
  | label l => intro _ Q g b T S f env mem bs a w h; exact h.elim
  | goto l => intro _ Q g b T S f env mem bs a w h; exact h.elim
  | refuse s => intro _ Q g b T S f env mem bs a w h; exact h.elim
end
/-- how an iterator ends: all have been yielded, or it was told to stop -/
def EndY (elems : List (List D)) : PostY
  | .normal, g, _, _ => g = some elems.length ∨ g = none
  | .ret, g, _, _ => g = some elems.length ∨ g = none
  | _, _, _, _ => False
/-- an iterator keeps its contract -/
theorem seqSpec_of {p : Prm} {f : FuncId} {fn : Func} {c : Code} (yl : List Nat) (hf : p.P.funcs[f]? = some fn) (hb : fn.body = some c) (hn : (fn.name == "runtime.NumGoroutine") = false) (hnt : fn.ntmps = p.nt.n) (hpn : p.nt.pins = []) (hmk : p.nt.marks = false) (hrs : fn.results = ⟨[]⟩)
    (hTB : TBok p.P p.TB) (hmix : p.P.follows .mixedOrders = true) (hc : codeOk c = true) {caps elems : List (List D)} (hlen : Nat.ble (caps.length + 1) p.nt.n = true)
    (h : ∀ l, spY p yl l elems c (EndY elems) (some 0) (envArgs 0 (.val (.one (.d (.v (.func (.yield l) #[] #[])))) :: caps.map fun cs => .val (.one (.ref cs)))) noMem) : SeqSpec p.P p.G f caps elems := by
  refine ⟨enters_of hf hb hn, fun n l J Jx S fs W I vs hJ hJx hJ0 hG hI hrel hyield => ?_⟩
  have hlen' := Nat.le_of_ble_eq_true hlen
  have hrel1 : Rel2 (fun y v => DenAV W I noBs noMem y v) (.func (.yield l) #[] #[] :: vs) (.val (.one (.d (.v (.func (.yield l) #[] #[])))) :: caps.map fun cs => .val (.one (.ref cs))) :=
    Rel2.cons (Den.v _ rfl) hrel
  have hfree : ∀ v, v ∈ (.val (.one (.d (.v (.func (.yield l) #[] #[])))) :: caps.map fun cs => (.val (.one (.ref cs)) : AV)) → v.hs = [] := by
    intro v hv
    rcases List.mem_cons.1 hv with rfl | hv
    · rfl
    · obtain ⟨cs, _, rfl⟩ := List.mem_map.1 hv; rfl
  have hvl : vs.length = caps.length := by have := hrel.1; simpa using this
  have hsub := hJ.sub S fs 0 W hJ0
  generalize hA : (.val (.one (.d (.v (.func (.yield l) #[] #[])))) :: caps.map fun cs => (.val (.one (.ref cs)) : AV)) = args at hrel1 hfree
  have hal : args.length = caps.length + 1 := by rw [← hA]; simp
  have hV : (#[.func (.yield l) #[] #[]] ++ vs.toArray : Array Value) = (Value.func (.yield l) #[] #[] :: vs).toArray := by simp
  rw [hV]
  generalize hVs : (Value.func (.yield l) #[] #[] :: vs) = ws at hrel1
  have hwl : ws.length = args.length := hrel1.1
  have hIs : ∀ b, I b → Stay (Base.all W) I noMem noBs W b := fun b hb => .inl ⟨hb, (hI b hb).1⟩
  have st : St (Base.all W) I p.nt (envArgs 0 args) noMem noBs { tmps := ws.toArray ++ Array.replicate (fn.ntmps - ws.toArray.size) undef, defers := [] } W := by
    refine ⟨Bel.refl _ _, by simp [hnt]; omega, fun _ => rfl, ?_, fun o => trivial, fun o o' b hm => by simp [noMem, Ob.mut] at hm, ?_, fun q o ho => by simp [noMem, Ob.hs] at ho, fun t ht => by rw [hpn] at ht; simp at ht, Marks.nil _ _⟩
    · intro t
      rcases envArgs_is args 0 t with h1 | ⟨_, v, h2, h3⟩
      · exact .inl h1
      · simp only [Nat.sub_zero] at h2
        have hlt : t < args.length := (List.getElem?_eq_some_iff.1 h2).1
        refine .inr ⟨by omega, ?_⟩
        rw [h3]
        obtain ⟨y, hy, hd⟩ := hrel1.get h2
        have e : (ws.toArray ++ Array.replicate (fn.ntmps - ws.toArray.size) undef).getD t undef = y := by
          rw [Array.getD_eq_getD_getElem?, Array.getElem?_append_left (by simp; omega)]
          simp [hy]
        rw [e]
        have K : Keeps W I noBs noMem W (Stay (Base.all W) I noMem noBs W) noBs noMem (fun _ => False) := ⟨fun b hb => ⟨hIs b hb, rfl⟩, fun _ _ h => h.elim, fun _ _ _ _ _ _ h => h.elim⟩
        exact K.av (fun o ho => by rw [hfree v (List.mem_of_getElem? h2)] at ho; simp at ho) hd
    · intro t o ho
      rcases envArgs_is args 0 t with h1 | ⟨_, v, h2, h3⟩
      · rw [h1] at ho; simp [AV.hs] at ho
      · simp only [Nat.sub_zero] at h2
        rw [h3, hfree v (List.mem_of_getElem? h2)] at ho; simp at ho
  have hit : It W fs I J Jx (some 0) (Base.all W) I S fs := ⟨fun x hx => (hsub x).2 hx, fun x hx => (hsub x).1 hx, fun x hx _ => (hI x hx).2, fun x hx _ => .inl hx, fun x hx => Nat.le_of_not_lt hx, Bel.refl _ _, fun x hx => .inl hx, hJ0⟩
  have h := h l
  rw [hA] at h
  refine callsIn_of_wp_marks hf hb trivial (wpIn_mono (spY_sound hTB hG hmix hJ hJx hyield hpn hmk c hc _ _ _ _ _ _ _ _ _ _ _ h hit st) ?_)
  rintro e a' w' ⟨g, b, T, S', f', env', mem', bs', hit', st', hq⟩
  have fin : (g = some elems.length ∨ g = none) → LeavesInM Fence.wide n p.P fn a'.tmps (fun e W' => (∃ v, e = .returned v) ∧ ∃ S' f', BelF fs W W' ∧ (∀ b, f' b → fs b ∨ W.heap.size ≤ b) ∧ (J S' f' elems.length W' ∨ Jx S' f' 0 W')) a'.defers .returning w' := by
    intro hg
    rw [st'.defers hmk]
    refine ⟨_, run_results (vs := []) hrs (by simp), ⟨_, rfl⟩, S', f', hit'.belF st'.below, hit'.ff, ?_⟩
    have hj := hit'.j
    rcases hg with rfl | rfl
    · exact .inl (hJ.abide S' f' _ b.w w' hj (st'.below.sub hit'.sK))
    · exact .inr (hJx.abide S' f' _ b.w w' hj (st'.below.sub hit'.sK))
  cases e with
  | normal => exact fin hq
  | ret => exact fin hq
  | exit id => exact hq.elim
  | goto l => exact hq.elim
  | panic ch => exact hq.elim
  | outgrown => exact hq.elim
end Go.Proofs.Ytobeklcimmjodaa.eng
