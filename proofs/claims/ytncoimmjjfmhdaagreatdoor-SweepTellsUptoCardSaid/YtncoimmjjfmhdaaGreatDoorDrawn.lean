/- No program: whatever a machine does, the number of draws never falls; so a call whose contract says that old memory is as it was leaves the world before it, with some draws and some new blocks (what the contracts of sorting ask of a comparison). -/
import Derived.Calls
import Derived.Below
import Derived.Sort.Grow
import Derived.Deep.Draws
namespace Go.Proofs.YtncoimmjjfmhdaaGreatDoor.dr
open Go Go.RowKit Go.Sort
def RD {α:Type} (d:Nat):Result α→Prop
 | .ok _ w=>d≤w.drawn
 | .halt _ w=>d≤w.drawn
theorem RD.le {α:Type} {d d':Nat} (h:d≤d'):∀ {r:Result α},RD d' r→RD d r
 | .ok _ _,g=>Nat.le_trans h g
 | .halt _ _,g=>Nat.le_trans h g
theorem Zlr {α:Type}:∀ (a:Ask α) (w:World),w.drawn≤(w.ask a).2.drawn
 | .done _,w=>Nat.le_refl _
 | .ask what range k,w=>by
  rw [World.ask]
  split
  ·exact Zlr _ w
  ·exact Nat.le_trans (Nat.le_succ _) (Zlr _ { w with drawn:=w.drawn+1 })
theorem Zoj (w:World) (c:Sys):w.drawn≤(w.sys c).2.drawn:=by
 have h:=Zlr (Kernel.perform c w.os) w
 unfold World.sys
 split
 ·exact Nat.le_refl _
 ·rename_i heq
  rw [heq] at h
  exact h
theorem Znj {p:Program} {w:World} {at_:Addr} {u:TypeId} {k:Addr} {v:Value} {b:Bool} {r:World×List Addr} (h:w.viewStore p at_ u k v b= .ok r):r.1.drawn=w.drawn:=by
 unfold World.viewStore at h
 simp only [bind,Except.bind,pure,Except.pure] at h
 repeat' split at h
 all_goals first|(cases h;done)|(obtain rfl:=(Except.ok.inj h);rfl)|skip
theorem ZoX {p:Program} {w:World} {a:Addr} {v:Value} {b:Bool} {r:World×List Addr} (h:w.farStore p a v b= .ok r):r.1.drawn=w.drawn:=by
 unfold World.farStore at h
 split at h
 ·split at h
  ·rename_i heq
   obtain rfl:=Except.ok.inj h
   exact Znj heq
  ·cases h
 ·cases h
theorem ZI {α:Type} (p:Program) (s:Sem α) (w:World):RD w.drawn (s.run p w):=by
 induction s generalizing w with
 |pure a=>exact Nat.le_refl _
 |load m a k ih=>
  simp only [Sem.run]
  split
  ·exact ih _ _
  ·split
   ·exact ih _ _
   ·exact Nat.le_refl _
 |store m a v k ih=>
  have key:RD w.drawn (match w.cell? a with
   | some _ => if w.frozen? a then Result.halt (α := α) (.unsupported (.unsafePointer "a write to bytes that a string shares")) w else k.run p (w.setCell a v)
   |none=>match w.farStore p a v (m== .atomic) with
    | .ok (w,_)=>k.run p w
    | .error h=> .halt h w):=by
   split
   ·split
    ·exact Nat.le_refl _
    ·exact ih (w.setCell a v)
   ·split
    ·rename_i heq
     have:=ZoX heq
     exact RD.le (Nat.le_of_eq this.symm) (ih _)
    ·exact Nat.le_refl _
  cases v<;>simp only [Sem.run]<;>first|exact key|exact Nat.le_refl _
 |new o k ih=>exact ih _ { w with heap:=w.heap.push o }
 |shape r k ih=>exact ih _ w
 |freeze a n k ih=>
  simp only [Sem.run]
  have:(w.freeze a n).drawn=w.drawn:=by unfold World.freeze;split<;>rfl
  exact RD.le (Nat.le_of_eq this.symm) (ih _)
 |frozen a k ih=>exact ih _ w
 |getObj r k ih=>
  simp only [Sem.run]
  split
  ·exact Nat.le_refl _
  ·exact ih _ w
  ·exact Nat.le_refl _
 |setObj r o k ih=>
  simp only [Sem.run]
  split
  ·exact Nat.le_refl _
  ·exact ih { w with heap:=w.heap.setIfInBounds r o }
  ·exact Nat.le_refl _
 |choose q k ih=>
  simp only [Sem.run]
  split
  ·exact ih _ w
  ·exact RD.le (Nat.le_succ _) (ih _ { w with drawn:=w.drawn+1 })
 |sys c k ih=>
  simp only [Sem.run]
  exact RD.le (Zoj w c) (ih _ _)
 |program k ih=>exact ih _ w
 |mark m k ih=>exact ih w
 |halt h=>exact Nat.le_refl _
def GD (d:Nat):GStep→Prop
 | .go _ w _=>d≤w.drawn
 | .comm _ _ _ _ w _=>d≤w.drawn
 | .spawn _ _ w _=>d≤w.drawn
 | .count _ w _=>d≤w.drawn
 | .timer _ _ w _=>d≤w.drawn
 | .alone _ _ w _=>d≤w.drawn
 | .newcoro _ _ _ w _=>d≤w.drawn
 | .coroswitch _ _ _ w _=>d≤w.drawn
 | .collect _ w _=>d≤w.drawn
 | .watch _ w _=>d≤w.drawn
 | .ended _ _ _=>True
theorem GD.le {d d':Nat} (h:d≤d'):∀ {g:GStep},GD d' g→GD d g
 | .go _ _ _,k=>Nat.le_trans h k
 | .comm _ _ _ _ _ _,k=>Nat.le_trans h k
 | .spawn _ _ _ _,k=>Nat.le_trans h k
 | .count _ _ _,k=>Nat.le_trans h k
 | .timer _ _ _ _,k=>Nat.le_trans h k
 | .alone _ _ _ _,k=>Nat.le_trans h k
 | .newcoro _ _ _ _ _,k=>Nat.le_trans h k
 | .coroswitch _ _ _ _ _,k=>Nat.le_trans h k
 | .collect _ _ _,k=>Nat.le_trans h k
 | .watch _ _ _,k=>Nat.le_trans h k
 | .ended _ _ _,_=>trivial
theorem GD.after {d:Nat} {es:Array Event}:∀ {g:GStep},GD d g→GD d (g.after es)
 | .go _ _ _,k=>k
 | .comm _ _ _ _ _ _,k=>k
 | .spawn _ _ _ _,k=>k
 | .count _ _ _,k=>k
 | .timer _ _ _ _,k=>k
 | .alone _ _ _ _,k=>k
 | .newcoro _ _ _ _ _,k=>k
 | .coroswitch _ _ _ _ _,k=>k
 | .collect _ _ _,k=>k
 | .watch _ _ _,k=>k
 | .ended _ _ _,_=>trivial
theorem Zm4 {d:Nat} {c:Prop} [Decidable c] {a b:GStep} (h1:GD d a) (h2:GD d b):GD d (if c then a else b):=by
 split
 ·exact h1
 ·exact h2
theorem Zg7 (fr:Frame) (m:String) (w:World):GD w.drawn (endThrow fr m w):=Nat.le_refl _
theorem Zne (w:World) (fd:Nat) (t:ByteArray) (o:Outcome):GD w.drawn (endWith w fd t o):=by
 unfold endWith
 repeat' split
 all_goals exact trivial
theorem ZcU (p:Program) (fr:Frame) (v:Value) (w:World):GD w.drawn (endPrinting p fr v w):=by
 unfold endPrinting
 dsimp only
 split
 ·exact Nat.le_refl _
 ·exact trivial
theorem ZhP (p:Program) (fr:Frame) (cs:List Frame) (dy:Option Dying) (m:String) (w:World):GD w.drawn (endFatal p fr cs dy m w):=by
 unfold endFatal
 dsimp only
 generalize hr:(Sem.run p _ w)=r
 have h:RD w.drawn r:=by rw [← hr];exact ZI ..
 cases r with
 |ok a w'=>obtain⟨t,u⟩:=a;exact h
 |halt k w'=>cases k<;>exact trivial
theorem Zia (p:Program) (fr:Frame) (d:Dying) (f:Fatal) (w:World):GD w.drawn (writeOn p fr d f w):=by
 unfold writeOn
 dsimp only
 split
 ·exact trivial
 ·simp only [Sem.runT_eq]
  generalize hr:(Sem.run p _ w)=r
  have h:RD w.drawn r:=by rw [← hr];exact ZI ..
  cases r with
  |ok a w'=>exact h
  |halt k w'=>cases k<;>first|exact trivial|exact h
theorem ZoY (p:Program) (fr:Frame) (d:Dying) (w:World):GD w.drawn (die p fr d w):=by
 unfold die
 split
 ·exact Zia ..
 split
 ·split
  ·exact Nat.le_refl _
  ·exact Zne ..
 dsimp only
 split
 ·exact Nat.le_refl _
 ·generalize hr:(Sem.run p _ w)=r
  have h:RD w.drawn r:=by rw [← hr];exact ZI ..
  cases r with
  |ok a w'=>exact h
  |halt k w'=>exact trivial
 ·simp only [Sem.runT_eq]
  refine GD.after ?_
  generalize hr:(Sem.run p _ w)=r
  have h:RD w.drawn r:=by rw [← hr];exact ZI ..
  split<;>first|exact trivial|exact h|exact GD.le h (ZcU ..)
 ·exact trivial
theorem ZaQ (p:Program) (main:Bool) (fr:Frame) (cs:List Frame) (dy:Option Dying) (v:Value) (w:World):GD w.drawn (doReturn p main fr cs dy v w):=by
 unfold doReturn
 dsimp only
 repeat' split
 all_goals first|exact Nat.le_refl _|exact trivial
theorem Zdk (p:Program) (fr:Frame) (cs:List Frame) (dy:Option Dying) (d:Deferred) (w:World):GD w.drawn (callDeferred p fr cs dy d w):=by
 unfold callDeferred
 refine Zm4 trivial ?_
 simp only [Sem.runT_eq]
 refine GD.after ?_
 generalize hr:(Sem.run p _ w)=r
 have h:RD w.drawn r:=by rw [← hr];exact ZI ..
 split
 all_goals first|exact trivial|exact h|exact GD.le h (ZhP ..)|(split<;>exact h)
theorem Zjg (p:Program) (main:Bool) (fr:Frame) (cs:List Frame) (dy:Option Dying) (w:World):GD w.drawn (unwind p main fr cs dy w):=by
 unfold unwind
 simp only [Sem.runT_eq]
 split
 ·refine GD.after ?_
  generalize hr:(Sem.run p _ w)=r
  have h:RD w.drawn r:=by rw [← hr];exact ZI ..
  split<;>first|exact trivial|exact h
 ·exact Zdk ..
 ·split
  ·exact trivial
  ·split
   ·exact trivial
   ·split
    ·exact Nat.le_refl _
    ·split
     ·split
      ·exact Nat.le_refl _
      ·generalize hr:(Sem.run p _ w)=r
       have h:RD w.drawn r:=by rw [← hr];exact ZI ..
       split<;>first|exact trivial|exact h
     ·split
      ·exact ZcU ..
      ·exact trivial
  ·split
   ·exact ZaQ ..
   ·refine GD.after ?_
    generalize hr:(Sem.run p _ w)=r
    have h:RD w.drawn r:=by rw [← hr];exact ZI ..
    split<;>first|exact trivial|exact GD.le h (ZaQ ..)
theorem Zmu (p:Program) (fr:Frame) (cs:List Frame) (dy:Option Dying) (g:Nat) (w:World):GD w.drawn (early p fr cs dy g w):=by
 unfold early
 dsimp only
 have hn:∀ w':World,w.drawn≤w'.drawn→GD w.drawn (match w'.heap[g]? with
  |some (.pending c elem)=>GStep.go { frame:=fr,callers:=cs,status:= .running,dying:=dy } { w' with heap:=w'.heap.setIfInBounds g (.cells c elem) }
  | _ => .ended (.stuck "early: the variable does not wait" (fr.pos p)) w') := fun w' hw => by
  split
  ·exact hw
  ·exact trivial
 split
 ·exact hn w (Nat.le_refl _)
 split
 ·exact trivial
 split
 ·exact hn w (Nat.le_refl _)
 split
 ·exact hn w (Nat.le_refl _)
 split
 ·exact trivial
 ·exact Nat.le_refl _
 ·exact trivial
 ·exact hn w (Nat.le_refl _)
 ·split
  ·exact Nat.le_refl _
  split
  ·exact hn w (Nat.le_refl _)
  generalize hr:(Sem.run p _ w)=r
  have h:RD w.drawn r:=by rw [← hr];exact ZI ..
  split
  ·exact hn _ h
  ·exact h
  ·exact trivial
theorem ZcC (p:Program) (listen:Bool) (fr:Frame) (cs:List Frame) (dy:Option Dying) (s:Sem Next) (w:World):GD w.drawn (stepG.apply p listen fr cs dy s w):=by
 unfold stepG.apply
 dsimp only
 have hs:RD w.drawn (if listen=true then s.runT p w #[] else (s.run p w,#[])).1:=by
  split
  ·simp only [Sem.runT_eq];exact ZI ..
  ·exact ZI ..
 generalize (if listen=true then s.runT p w #[] else (s.run p w,#[]))=q at hs
 obtain⟨r,es⟩:=q
 refine GD.after ?_
 have h:RD w.drawn r:=hs
 dsimp only
 split
 all_goals first|exact trivial|exact h|exact GD.le h (ZhP ..)|exact GD.le h (Zg7 ..)|exact GD.le h (Zmu ..)|skip
 all_goals repeat' (split)
 all_goals first|exact h|exact GD.le h (Zg7 ..)|skip
theorem ZnE (p:Program) (listen:Bool) (fr:Frame) (cs:List Frame) (dy:Option Dying) (w:World):GD w.drawn (stepG.oper p listen fr cs dy w):=by
 unfold stepG.oper
 split
 ·exact trivial
 ·split<;>exact ZcC ..
theorem ZhD (p:Program) (main:Bool) (fr:Frame) (cs:List Frame) (dy:Option Dying) (w:World) (jump:Option Code) {c:Prop} [Decidable c] {A B:GStep} (hA:GD w.drawn A) (hB:GD w.drawn B):
  GD w.drawn (match fr.roundOf with
   |none=>if c then A else B
   |some l=>
    let (r,es):=(Instr.endRound l jump).runT p w #[]
    GStep.after (seen p fr.fn es)<|match r with
    | .ok v w=>doReturn p main fr cs dy v w
    | .halt _ w => .ended (.stuck "range over a function: no such loop" (fr.pos p)) w) := by
 split
 ·exact Zm4 hA hB
 ·simp only [Sem.runT_eq]
  refine GD.after ?_
  generalize hr:(Sem.run p _ w)=r
  have h:RD w.drawn r:=by rw [← hr];exact ZI ..
  split<;>first|exact trivial|exact GD.le h (ZaQ ..)
theorem ZkX {α:Type} {d:Nat} {o:Option α} {a:GStep} {f:α→GStep} (h1:GD d a) (h2:∀ x,GD d (f x)):GD d (o.elim a f):=by
 cases o with
 |none=>exact h1
 |some x=>exact h2 x
theorem ZnZ (p:Program) (main listen:Bool) (fr:Frame) (cs:List Frame) (dy:Option Dying) (w:World):GD w.drawn (stepG.exec p main listen fr cs dy w):=by
 unfold stepG.exec
 dsimp only
 split
 case h_1=>exact ZhD p main fr cs dy w none (Nat.le_refl _) trivial
 case h_2=>exact ZhD p main fr cs dy w (some .ret) (Nat.le_refl _) trivial
 case h_13|h_14=>
  refine ZkX ?_ (fun _=>Nat.le_refl _)
  simp only [Sem.runT_eq]
  split
  ·split<;>first|exact Nat.le_refl _|exact trivial
  ·refine GD.after ?_
   generalize hr:(Sem.run p _ w)=r
   have h:RD w.drawn r:=by rw [← hr];exact ZI ..
   split<;>first|exact trivial|exact GD.le h (ZaQ ..)
 case h_15=>
  simp only [Sem.runT_eq]
  refine GD.after ?_
  generalize hr:(Sem.run p _ w)=r
  have h:RD w.drawn r:=by rw [← hr];exact ZI ..
  split
  ·exact GD.le h (ZcC ..)
  ·exact trivial
 case h_18=>
  simp only [Sem.runT_eq]
  refine GD.after ?_
  generalize hr:(Sem.run p _ w)=r
  have h:RD w.drawn r:=by rw [← hr];exact ZI ..
  split
  ·exact h
  ·exact h
  ·exact trivial
 case h_22=>
  split
  ·exact Nat.le_refl _
  ·generalize hr:(Sem.run p _ w)=r
   have h:RD w.drawn r:=by rw [← hr];exact ZI ..
   split
   ·exact h
   ·exact trivial
 case h_24=>
  split
  ·exact ZnE ..
  ·exact Nat.le_refl _
 all_goals first
  |exact Nat.le_refl _
  |exact trivial
  |exact ZkX trivial (fun _=>ZcC ..)
  |(refine ZcC p listen _ cs dy _ w)
  |(split<;>first|exact Nat.le_refl _|exact trivial)
theorem ZlF (p:Program) (main:Bool) (g:Goroutine) (w:World) (listen:Bool):GD w.drawn (stepG p main g w listen):=by
 unfold stepG
 dsimp only
 split
 ·exact ZoY ..
 ·exact ZnZ ..
 ·exact Zjg ..
def SD (d:Nat):Stepped→Prop
 | .next m=>d≤m.world.drawn
 | .ended _ _=>True
theorem Zkn (p:Program) (gs:Array Goroutine) (rest:Rest) (w:World):SD w.drawn (look p gs rest w):=by
 unfold look
 split
 ·dsimp only
  split
  ·exact trivial
  ·split
   ·exact trivial
   ·generalize hr:(Sem.run p _ w)=r
    have h:RD w.drawn r:=by rw [← hr];exact ZI ..
    split
    ·exact h
    ·exact trivial
    ·exact trivial
 ·exact trivial
theorem ZlL (p:Program) (m:Machine) (k:Nat):SD m.world.drawn (serve p m k):=by
 unfold serve
 split
 ·exact trivial
 ·exact Nat.le_refl _
 ·dsimp only
  split
  ·exact trivial
  ·exact Nat.le_refl _
theorem Znh {rest:Rest} {cs:Array CommCase} {w w':World} (h:waitingAt rest cs w=some w'):w'.drawn=w.drawn:=by
 unfold waitingAt at h
 split at h
 ·split at h
  ·obtain rfl:=Option.some.inj h;rfl
  ·cases h
 ·obtain rfl:=Option.some.inj h;rfl
theorem Zn9 (p:Program) (rest:Rest) (gs:Array Goroutine) (i:Nat) (g:Goroutine) (cases:Array CommCase) (bl:Bool) (sh:CommShape) (w:World):SD w.drawn (communicate p rest gs i g cases bl sh w).1:=by
 unfold communicate
 dsimp only
 split
 ·exact trivial
 split
 ·split
  ·split
   ·rename_i h
    exact Nat.le_of_eq (Znh h).symm
   ·exact trivial
  ·exact Nat.le_refl _
 ·generalize hr:(Sem.run p _ w)=r
  have h:RD w.drawn r:=by rw [← hr];exact ZI ..
  cases r with
  |halt k w'=>exact trivial
  |ok a w'=>
   obtain⟨k,c,way⟩:=a
   have h:w.drawn≤w'.drawn:=h
   dsimp only
   split
   ·generalize hr2:(Sem.run p _ w')=r2
    have h2:RD w'.drawn r2:=by rw [← hr2];exact ZI ..
    split
    ·exact Nat.le_trans h h2
    ·exact trivial
   ·exact h
   ·exact h
   ·split
    ·exact h
    ·generalize hr2:(Sem.run p _ w')=r2
     have h2:RD w'.drawn r2:=by rw [← hr2];exact ZI ..
     split
     ·exact Nat.le_trans h h2
     ·exact trivial
   ·exact h
   ·exact h
   ·exact trivial
theorem Zmv (w:World) (c:Nat):(drain w c).2.drawn=w.drawn:=by
 unfold drain
 split<;>rfl
theorem Zfd (m:Machine) (k:Nat) (t:Timer) (a b:Nat):(retime m k t a b).2.world.drawn=m.world.drawn:=by
 unfold retime
 dsimp only
 split
 ·exact Zmv ..
 ·rfl
theorem Zhw {m:Machine} {var:Addr} {f:Nat→Timer→Value×Machine} {r:Value×Machine} {d:Nat} (hf:∀ k t,(f k t).2.world.drawn=d) (h:timerOp.named m var f= .ok r):r.2.world.drawn=d:=by
 unfold timerOp.named at h
 split at h
 ·obtain rfl:=Except.ok.inj h
  exact hf _ _
 ·cases h
theorem ZlC {m:Machine} {op:TimerOp} {r:Value×Machine} (h:timerOp m op= .ok r):r.2.world.drawn=m.world.drawn:=by
 unfold timerOp at h
 split at h
 ·split at h
  ·obtain rfl:=Except.ok.inj h;rfl
  ·split at h
   ·split at h
    ·cases h
    ·obtain rfl:=Except.ok.inj h;rfl
   ·cases h
 ·exact Zhw (fun k t=>Zfd ..) h
 ·split at h
  ·rename_i m' hm
   refine Zhw (fun k t=> ?_) h
   rw [Zfd]
   unfold timerOp.opened at hm
   split at hm
   ·split at hm
    ·obtain rfl:=Option.some.inj hm;rfl
    ·cases hm
   ·obtain rfl:=Option.some.inj hm;rfl
  ·cases h
 ·obtain rfl:=Except.ok.inj h;rfl
theorem Znu (p:Program) (m:Machine) (i:Nat) (listen:Bool):SD m.world.drawn (runT p m i listen).1:=by
 unfold runT
 dsimp only
 generalize m.gs.swapAt! i { (default:Goroutine) with status:= .finished }=q
 obtain⟨g,gs⟩:=q
 dsimp only
 have hs:=ZlF p (i==0) g m.world listen
 generalize stepG p (i==0) g m.world listen=s at hs
 cases s with
 |ended o w es=>exact trivial
 |comm g cases bl sh w es=>
  have hs:m.world.drawn≤w.drawn:=hs
  have h:=Zn9 p m.rest gs i g cases bl sh w
  dsimp only
  generalize communicate p m.rest gs i g cases bl sh w=c at h
  obtain⟨r,more⟩:=c
  cases r with
  |next m'=>exact Nat.le_trans hs h
  |ended _ _=>exact trivial
 |go g w es=>exact hs
 |spawn g c w es=>exact hs
 |count g w es=>
  dsimp only
  split
  ·exact trivial
  ·exact hs
 |alone g on w es=>exact hs
 |collect g w es=>
  have hs:m.world.drawn≤w.drawn:=hs
  have h:=Zkn p (gs.setIfInBounds i g) m.rest w
  dsimp only
  generalize look p (gs.setIfInBounds i g) m.rest w=r at h
  cases r with
  |next m'=>exact Nat.le_trans hs h
  |ended _ _=>exact trivial
 |watch g w es=>exact hs
 |newcoro g c d w es=>exact hs
 |coroswitch g c ex w es=>
  have hs:m.world.drawn≤w.drawn:=hs
  dsimp only
  split
  ·exact hs
  ·exact hs
  ·exact trivial
 |timer g op w es=>
  have hs:m.world.drawn≤w.drawn:=hs
  dsimp only
  split
  ·rename_i v m' hm
   have:=ZlC hm
   show m.world.drawn≤m'.world.drawn
   have e:m'.world.drawn=w.drawn:=this
   omega
  ·exact hs
  ·exact trivial
  ·exact trivial
def MD (d:Nat):Move→Prop
 | .goroutine m _=>d≤m.world.drawn
 | .machine s _=>SD d s
theorem ZeR (p:Program) (m:Machine):MD m.world.drawn (askOn p m):=by
 have pick:∀ (rs:List Nat) (m':Machine),m.world.drawn≤m'.world.drawn→MD m.world.drawn (match (choose (.sched rs.length)).run p m'.world with
   | .halt _ w => .machine (.ended (.stuck "sched" "") w)
   | .ok k world=>
    if rs.length≤1 then .goroutine { m' with world } (rs.getD k 0) else
    match (choose (.extern "sched.slice" 65536)).run p world with
    | .halt _ w => .machine (.ended (.stuck "sched.slice" "") w)
    | .ok n world=> .goroutine { m' with world,rest:={ m'.rest with slice:=if n=0 then none else some (rs.getD k 0,n) } } (rs.getD k 0)):=fun rs m' hm=>by
  have h:=ZI p (choose (.sched rs.length)) m'.world
  generalize (choose (.sched rs.length)).run p m'.world=r at h
  cases r with
  |halt k w=>exact trivial
  |ok k w=>
   have h:m'.world.drawn≤w.drawn:=h
   dsimp only
   split
   ·exact Nat.le_trans hm h
   ·have h2 := ZI p (choose (.extern "sched.slice" 65536)) w
    generalize (choose (.extern "sched.slice" 65536)).run p w = r2 at h2
    cases r2 with
    |halt k w=>exact trivial
    |ok k w2=>exact Nat.le_trans hm (Nat.le_trans h h2)
 unfold askOn
 dsimp only
 generalize hr:(Sem.run p _ m.world)=r
 have h:RD m.world.drawn r:=by rw [← hr];exact ZI ..
 cases r with
 |halt k w=>exact trivial
 |ok k w=>
  have h:m.world.drawn≤w.drawn:=h
  dsimp only
  split
  ·have:=ZlL p { m with world:=w } ((due m.rest.timers m.world.os.mono).getD k 0)
   show SD _ _
   generalize serve p { m with world:=w } ((due m.rest.timers m.world.os.mono).getD k 0)=s at this
   cases s with
   |next m'=>exact Nat.le_trans h this
   |ended _ _=>exact trivial
  split
  ·split
   ·exact h
   ·split
    ·exact h
    ·split
     ·exact trivial
     ·exact trivial
  ·split
   ·exact pick _ { m with world:=w } h
   ·generalize hr2:(Sem.run p _ w)=r2
    have h2:RD w.drawn r2:=by rw [← hr2];exact ZI ..
    cases r2 with
    |halt k w=>exact trivial
    |ok k2 w2=>
     have h2:w.drawn≤w2.drawn:=h2
     match k2 with
     |0=>exact pick _ { m with world:=w2 } (Nat.le_trans h h2)
     |1=>exact Nat.le_trans h h2
     |k3+2=>exact pick _ (Machine.advanceTo { m with world:=w2 } _) (Nat.le_trans h h2)
theorem MD.le {d d':Nat} (h:d≤d'):∀ {mv:Move},MD d' mv→MD d mv
 | .goroutine _ _,k=>Nat.le_trans h k
 | .machine (.next _) _,k=>Nat.le_trans h k
 | .machine (.ended _ _) _,_=>trivial
theorem Zna (p:Program) (m:Machine):MD m.world.drawn (ask p m):=by
 unfold ask
 split
 ·generalize hr:(Sem.run p _ m.world)=r
  have h:RD m.world.drawn r:=by rw [← hr];exact ZI ..
  split
  ·exact trivial
  ·rename_i w
   have hl:=Zkn p m.gs m.rest w
   have h:m.world.drawn≤w.drawn:=h
   split
   ·rename_i heq
    rw [heq] at hl
    exact MD.le (Nat.le_trans h hl) (ZeR ..)
   ·generalize look p m.gs m.rest w=e at hl
    cases e with
    |next m'=>exact Nat.le_trans h hl
    |ended _ _=>exact trivial
  ·rename_i w _
   exact MD.le h (ZeR p { m with world:=w })
 ·exact ZeR ..
theorem ZnI (p:Program) (m:Machine):MD m.world.drawn (move p m):=by
 unfold move
 split
 ·split
  ·exact Nat.le_refl _
  ·exact trivial
 ·split
  ·split
   ·exact Nat.le_refl _
   ·exact Zna ..
  ·exact Zna ..
theorem Znq (p:Program) (m:Machine):SD m.world.drawn (step p m):=by
 unfold step stepT
 have h:=ZnI p m
 generalize move p m=mv at h
 cases mv with
 |goroutine m' i=>
  have h:m.world.drawn≤m'.world.drawn:=h
  have h2:=Znu p m' i true
  dsimp only
  generalize (runT p m' i true).1=s at h2
  cases s with
  |next _=>exact Nat.le_trans h h2
  |ended _ _=>exact trivial
 |machine s _=>exact h
theorem Zhb {p:Program} {m m':Machine} (h:Steps p m m'):m.world.drawn≤m'.world.drawn:=by
 obtain⟨n,h⟩:=h
 induction n generalizing m with
 |zero=>obtain rfl:=Stepped.next.inj (show Stepped.next m= .next m' from h);exact Nat.le_refl _
 |succ n ih=>
  simp only [runN] at h
  have hs:=Znq p m
  generalize step p m=s at h hs
  cases s with
  |next m1=>exact Nat.le_trans hs (ih h)
  |ended _ _=>cases h
theorem ZmA {P:Program} {f:FuncId} {args:Array Value} {w:World} {R:Ending→World→Prop} (h:Calls P f args w R) (hR:∀ e w',R e w'→e≠ .outgrown):Calls P f args w fun e w'=>R e w'∧w.drawn≤w'.drawn:=by
 intro cs
 obtain⟨e,w',fr,hr,hc,h1,h2⟩:=h cs
 refine⟨e,w',fr,⟨hr,?_⟩,hc,h1,h2⟩
 cases e with
 |returned v=>exact Zhb (m:=lone _ cs w) (m':=lone fr cs w') hc
 |panicked c=>exact Zhb (m:=lone _ cs w) (m':=lone fr cs w') hc
 |outgrown=>exact absurd rfl (hR _ _ hr)
theorem ZnW {w w':World} (h:Below w.heap.size w w') (hd:w.drawn≤w'.drawn):∃ q os,w'=grow (w.drewN q) os:=by
 refine⟨w'.drawn - w.drawn,w'.heap.extract w.heap.size w'.heap.size,?_⟩
 have hh:w'.heap=w.heap++w'.heap.extract w.heap.size w'.heap.size:=by
  apply Array.ext_getElem?
  intro i
  by_cases hi:i< w.heap.size
  ·rw [Array.getElem?_append_left hi,h.block i hi]
  ·rw [Array.getElem?_append_right (by omega),Array.getElem?_extract]
   have hs:=h.size
   split
   ·congr 1;omega
   ·rename_i hn
    simp only [Nat.min_self] at hn
    rw [Array.getElem?_eq_none (by omega)]
 obtain⟨h1,t1,d1,o1,p1⟩:=w'
 obtain⟨h0,t0,d0,o0,p0⟩:=w
 have e1:=h.os
 have e2:=h.tape
 have e3:=h.output
 simp only at e1 e2 e3 hd hh
 subst e1 e2 e3
 unfold grow World.drewN
 simp only [World.mk.injEq,true_and,and_true]
 exact⟨hh,by omega⟩
theorem calls_grow {P:Program} {f:FuncId} {args:Array Value} {w:World} {v:Value} (h:Calls P f args w fun e w'=>e= .returned v∧Below w.heap.size w w'):
  Calls P f args w fun e w'=>e= .returned v∧∃ q os,w'=grow (w.drewN q) os:=
 (ZmA h fun e w' h=>by rw [h.1];exact fun h=>nomatch h).mono fun _ _ ⟨⟨he,hb⟩,hd⟩=>⟨he,ZnW hb hd⟩
end Go.Proofs.YtncoimmjjfmhdaaGreatDoor.dr
