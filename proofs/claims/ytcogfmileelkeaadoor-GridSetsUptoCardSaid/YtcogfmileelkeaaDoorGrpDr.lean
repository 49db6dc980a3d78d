/- Joined by wip/bundle.py: XDrawn XSrt0. -/
import Derived.Calls
import Derived.Below
import Derived.Sort.Grow
import Derived.Deep.Draws
import Derived.Test.YtcogfmileelkeaaDoorEng
import Derived.Shelf.SlSortCmp.NoneTotal
namespace Go.Proofs.YtcogfmileelkeaaDoor.dr
open Go Go.RowKit Go.Sort
def RD {α:Type} (d:Nat):Result α→Prop
 | .ok _ w=>d≤w.drawn
 | .halt _ w=>d≤w.drawn
theorem RD.le {α:Type} {d d':Nat} (h:d≤d'):∀ {r:Result α},RD d' r→RD d r
 | .ok _ _,g=>Nat.le_trans h g
 | .halt _ _,g=>Nat.le_trans h g
theorem ZiB {α:Type}:∀ (a:Ask α) (w:World),w.drawn≤(w.ask a).2.drawn
 | .done _,w=>Nat.le_refl _
 | .ask what range k,w=>by
  rw [World.ask]
  split
  ·exact ZiB _ w
  ·exact Nat.le_trans (Nat.le_succ _) (ZiB _ { w with drawn:=w.drawn+1 })
theorem ZkN (w:World) (c:Sys):w.drawn≤(w.sys c).2.drawn:=by
 have h:=ZiB (Kernel.perform c w.os) w
 unfold World.sys
 split
 ·exact Nat.le_refl _
 ·rename_i heq
  rw [heq] at h
  exact h
theorem ZjZ {p:Program} {w:World} {at_:Addr} {u:TypeId} {k:Addr} {v:Value} {b:Bool} {r:World×List Addr} (h:w.viewStore p at_ u k v b= .ok r):r.1.drawn=w.drawn:=by
 unfold World.viewStore at h
 simp only [bind,Except.bind,pure,Except.pure] at h
 repeat' split at h
 all_goals first|(cases h;done)|(obtain rfl:=(Except.ok.inj h);rfl)|skip
theorem Zk9 {p:Program} {w:World} {a:Addr} {v:Value} {b:Bool} {r:World×List Addr} (h:w.farStore p a v b= .ok r):r.1.drawn=w.drawn:=by
 unfold World.farStore at h
 split at h
 ·split at h
  ·rename_i heq
   obtain rfl:=Except.ok.inj h
   exact ZjZ heq
  ·cases h
 ·cases h
theorem ZB {α:Type} (p:Program) (s:Sem α) (w:World):RD w.drawn (s.run p w):=by
 induction s generalizing w with
 |pure a=>exact Nat.le_refl _
 |load m a k ih=>
  simp only [Sem.run]
  split
  ·exact ih _ _
  ·split
   ·exact ih _ _
   ·exact Nat.le_refl _
 |store m a v k ih=>
  have key:RD w.drawn (match w.cell? a with
   | some _ => if w.frozen? a then Result.halt (α := α) (.unsupported (.unsafePointer "a write to bytes that a string shares")) w else k.run p (w.setCell a v)
   |none=>match w.farStore p a v (m== .atomic) with
    | .ok (w,_)=>k.run p w
    | .error h=> .halt h w):=by
   split
   ·split
    ·exact Nat.le_refl _
    ·exact ih (w.setCell a v)
   ·split
    ·rename_i heq
     have:=Zk9 heq
     exact RD.le (Nat.le_of_eq this.symm) (ih _)
    ·exact Nat.le_refl _
  cases v<;>simp only [Sem.run]<;>first|exact key|exact Nat.le_refl _
 |new o k ih=>exact ih _ { w with heap:=w.heap.push o }
 |shape r k ih=>exact ih _ w
 |freeze a n k ih=>
  simp only [Sem.run]
  have:(w.freeze a n).drawn=w.drawn:=by unfold World.freeze;split<;>rfl
  exact RD.le (Nat.le_of_eq this.symm) (ih _)
 |frozen a k ih=>exact ih _ w
 |getObj r k ih=>
  simp only [Sem.run]
  split
  ·exact Nat.le_refl _
  ·exact ih _ w
  ·exact Nat.le_refl _
 |setObj r o k ih=>
  simp only [Sem.run]
  split
  ·exact Nat.le_refl _
  ·exact ih { w with heap:=w.heap.setIfInBounds r o }
  ·exact Nat.le_refl _
 |choose q k ih=>
  simp only [Sem.run]
  split
  ·exact ih _ w
  ·exact RD.le (Nat.le_succ _) (ih _ { w with drawn:=w.drawn+1 })
 |sys c k ih=>
  simp only [Sem.run]
  exact RD.le (ZkN w c) (ih _ _)
 |program k ih=>exact ih _ w
 |mark m k ih=>exact ih w
 |halt h=>exact Nat.le_refl _
def GD (d:Nat):GStep→Prop
 | .go _ w _=>d≤w.drawn
 | .comm _ _ _ _ w _=>d≤w.drawn
 | .spawn _ _ w _=>d≤w.drawn
 | .count _ w _=>d≤w.drawn
 | .timer _ _ w _=>d≤w.drawn
 | .alone _ _ w _=>d≤w.drawn
 | .newcoro _ _ _ w _=>d≤w.drawn
 | .coroswitch _ _ _ w _=>d≤w.drawn
 | .collect _ w _=>d≤w.drawn
 | .watch _ w _=>d≤w.drawn
 | .ended _ _ _=>True
theorem GD.le {d d':Nat} (h:d≤d'):∀ {g:GStep},GD d' g→GD d g
 | .go _ _ _,k=>Nat.le_trans h k
 | .comm _ _ _ _ _ _,k=>Nat.le_trans h k
 | .spawn _ _ _ _,k=>Nat.le_trans h k
 | .count _ _ _,k=>Nat.le_trans h k
 | .timer _ _ _ _,k=>Nat.le_trans h k
 | .alone _ _ _ _,k=>Nat.le_trans h k
 | .newcoro _ _ _ _ _,k=>Nat.le_trans h k
 | .coroswitch _ _ _ _ _,k=>Nat.le_trans h k
 | .collect _ _ _,k=>Nat.le_trans h k
 | .watch _ _ _,k=>Nat.le_trans h k
 | .ended _ _ _,_=>trivial
theorem GD.after {d:Nat} {es:Array Event}:∀ {g:GStep},GD d g→GD d (g.after es)
 | .go _ _ _,k=>k
 | .comm _ _ _ _ _ _,k=>k
 | .spawn _ _ _ _,k=>k
 | .count _ _ _,k=>k
 | .timer _ _ _ _,k=>k
 | .alone _ _ _ _,k=>k
 | .newcoro _ _ _ _ _,k=>k
 | .coroswitch _ _ _ _ _,k=>k
 | .collect _ _ _,k=>k
 | .watch _ _ _,k=>k
 | .ended _ _ _,_=>trivial
theorem ZjO {d:Nat} {c:Prop} [Decidable c] {a b:GStep} (h1:GD d a) (h2:GD d b):GD d (if c then a else b):=by
 split
 ·exact h1
 ·exact h2
theorem ZfD (fr:Frame) (m:String) (w:World):GD w.drawn (endThrow fr m w):=Nat.le_refl _
theorem ZjW (w:World) (fd:Nat) (t:ByteArray) (o:Outcome):GD w.drawn (endWith w fd t o):=by
 unfold endWith
 repeat' split
 all_goals exact trivial
theorem Zck (p:Program) (fr:Frame) (v:Value) (w:World):GD w.drawn (endPrinting p fr v w):=by
 unfold endPrinting
 dsimp only
 split
 ·exact Nat.le_refl _
 ·exact trivial
theorem Zgc (p:Program) (fr:Frame) (cs:List Frame) (dy:Option Dying) (m:String) (w:World):GD w.drawn (endFatal p fr cs dy m w):=by
 unfold endFatal
 dsimp only
 generalize hr:(Sem.run p _ w)=r
 have h:RD w.drawn r:=by rw [← hr];exact ZB ..
 cases r with
 |ok a w'=>obtain⟨t,u⟩:=a;exact h
 |halt k w'=>cases k<;>exact trivial
theorem Zgr (p:Program) (fr:Frame) (d:Dying) (f:Fatal) (w:World):GD w.drawn (writeOn p fr d f w):=by
 unfold writeOn
 dsimp only
 split
 ·exact trivial
 ·simp only [Sem.runT_eq]
  generalize hr:(Sem.run p _ w)=r
  have h:RD w.drawn r:=by rw [← hr];exact ZB ..
  cases r with
  |ok a w'=>exact h
  |halt k w'=>cases k<;>first|exact trivial|exact h
theorem Zlb (p:Program) (fr:Frame) (d:Dying) (w:World):GD w.drawn (die p fr d w):=by
 unfold die
 split
 ·exact Zgr ..
 split
 ·split
  ·exact Nat.le_refl _
  ·exact ZjW ..
 dsimp only
 split
 ·exact Nat.le_refl _
 ·generalize hr:(Sem.run p _ w)=r
  have h:RD w.drawn r:=by rw [← hr];exact ZB ..
  cases r with
  |ok a w'=>exact h
  |halt k w'=>exact trivial
 ·simp only [Sem.runT_eq]
  refine GD.after ?_
  generalize hr:(Sem.run p _ w)=r
  have h:RD w.drawn r:=by rw [← hr];exact ZB ..
  split<;>first|exact trivial|exact h|exact GD.le h (Zck ..)
 ·exact trivial
theorem ZaI (p:Program) (main:Bool) (fr:Frame) (cs:List Frame) (dy:Option Dying) (v:Value) (w:World):GD w.drawn (doReturn p main fr cs dy v w):=by
 unfold doReturn
 dsimp only
 repeat' split
 all_goals first|exact Nat.le_refl _|exact trivial
theorem ZcG (p:Program) (fr:Frame) (cs:List Frame) (dy:Option Dying) (d:Deferred) (w:World):GD w.drawn (callDeferred p fr cs dy d w):=by
 unfold callDeferred
 refine ZjO trivial ?_
 simp only [Sem.runT_eq]
 refine GD.after ?_
 generalize hr:(Sem.run p _ w)=r
 have h:RD w.drawn r:=by rw [← hr];exact ZB ..
 split
 all_goals first|exact trivial|exact h|exact GD.le h (Zgc ..)|(split<;>exact h)
theorem Zhi (p:Program) (main:Bool) (fr:Frame) (cs:List Frame) (dy:Option Dying) (w:World):GD w.drawn (unwind p main fr cs dy w):=by
 unfold unwind
 simp only [Sem.runT_eq]
 split
 ·refine GD.after ?_
  generalize hr:(Sem.run p _ w)=r
  have h:RD w.drawn r:=by rw [← hr];exact ZB ..
  split<;>first|exact trivial|exact h
 ·exact ZcG ..
 ·split
  ·exact trivial
  ·split
   ·exact trivial
   ·split
    ·exact Nat.le_refl _
    ·split
     ·split
      ·exact Nat.le_refl _
      ·generalize hr:(Sem.run p _ w)=r
       have h:RD w.drawn r:=by rw [← hr];exact ZB ..
       split<;>first|exact trivial|exact h
     ·split
      ·exact Zck ..
      ·exact trivial
  ·split
   ·exact ZaI ..
   ·refine GD.after ?_
    generalize hr:(Sem.run p _ w)=r
    have h:RD w.drawn r:=by rw [← hr];exact ZB ..
    split<;>first|exact trivial|exact GD.le h (ZaI ..)
theorem Zjs (p:Program) (fr:Frame) (cs:List Frame) (dy:Option Dying) (g:Nat) (w:World):GD w.drawn (early p fr cs dy g w):=by
 unfold early
 dsimp only
 have hn:∀ w':World,w.drawn≤w'.drawn→GD w.drawn (match w'.heap[g]? with
  |some (.pending c elem)=>GStep.go { frame:=fr,callers:=cs,status:= .running,dying:=dy } { w' with heap:=w'.heap.setIfInBounds g (.cells c elem) }
  | _ => .ended (.stuck "early: the variable does not wait" (fr.pos p)) w') := fun w' hw => by
  split
  ·exact hw
  ·exact trivial
 split
 ·exact hn w (Nat.le_refl _)
 split
 ·exact trivial
 split
 ·exact hn w (Nat.le_refl _)
 split
 ·exact hn w (Nat.le_refl _)
 split
 ·exact trivial
 ·exact Nat.le_refl _
 ·exact trivial
 ·exact hn w (Nat.le_refl _)
 ·split
  ·exact Nat.le_refl _
  split
  ·exact hn w (Nat.le_refl _)
  generalize hr:(Sem.run p _ w)=r
  have h:RD w.drawn r:=by rw [← hr];exact ZB ..
  split
  ·exact hn _ h
  ·exact h
  ·exact trivial
theorem Zb8 (p:Program) (listen:Bool) (fr:Frame) (cs:List Frame) (dy:Option Dying) (s:Sem Next) (w:World):GD w.drawn (stepG.apply p listen fr cs dy s w):=by
 unfold stepG.apply
 dsimp only
 have hs:RD w.drawn (if listen=true then s.runT p w #[] else (s.run p w,#[])).1:=by
  split
  ·simp only [Sem.runT_eq];exact ZB ..
  ·exact ZB ..
 generalize (if listen=true then s.runT p w #[] else (s.run p w,#[]))=q at hs
 obtain⟨r,es⟩:=q
 refine GD.after ?_
 have h:RD w.drawn r:=hs
 dsimp only
 split
 all_goals first|exact trivial|exact h|exact GD.le h (Zgc ..)|exact GD.le h (ZfD ..)|exact GD.le h (Zjs ..)|skip
 all_goals repeat' (split)
 all_goals first|exact h|exact GD.le h (ZfD ..)|skip
theorem Zj7 (p:Program) (listen:Bool) (fr:Frame) (cs:List Frame) (dy:Option Dying) (w:World):GD w.drawn (stepG.oper p listen fr cs dy w):=by
 unfold stepG.oper
 split
 ·exact trivial
 ·split<;>exact Zb8 ..
theorem ZfZ (p:Program) (main:Bool) (fr:Frame) (cs:List Frame) (dy:Option Dying) (w:World) (jump:Option Code) {c:Prop} [Decidable c] {A B:GStep} (hA:GD w.drawn A) (hB:GD w.drawn B):
  GD w.drawn (match fr.roundOf with
   |none=>if c then A else B
   |some l=>
    let (r,es):=(Instr.endRound l jump).runT p w #[]
    GStep.after (seen p fr.fn es)<|match r with
    | .ok v w=>doReturn p main fr cs dy v w
    | .halt _ w => .ended (.stuck "range over a function: no such loop" (fr.pos p)) w) := by
 split
 ·exact ZjO hA hB
 ·simp only [Sem.runT_eq]
  refine GD.after ?_
  generalize hr:(Sem.run p _ w)=r
  have h:RD w.drawn r:=by rw [← hr];exact ZB ..
  split<;>first|exact trivial|exact GD.le h (ZaI ..)
theorem Zik {α:Type} {d:Nat} {o:Option α} {a:GStep} {f:α→GStep} (h1:GD d a) (h2:∀ x,GD d (f x)):GD d (o.elim a f):=by
 cases o with
 |none=>exact h1
 |some x=>exact h2 x
theorem Zkq (p:Program) (main listen:Bool) (fr:Frame) (cs:List Frame) (dy:Option Dying) (w:World):GD w.drawn (stepG.exec p main listen fr cs dy w):=by
 unfold stepG.exec
 dsimp only
 split
 case h_1=>exact ZfZ p main fr cs dy w none (Nat.le_refl _) trivial
 case h_2=>exact ZfZ p main fr cs dy w (some .ret) (Nat.le_refl _) trivial
 case h_13|h_14=>
  refine Zik ?_ (fun _=>Nat.le_refl _)
  simp only [Sem.runT_eq]
  split
  ·split<;>first|exact Nat.le_refl _|exact trivial
  ·refine GD.after ?_
   generalize hr:(Sem.run p _ w)=r
   have h:RD w.drawn r:=by rw [← hr];exact ZB ..
   split<;>first|exact trivial|exact GD.le h (ZaI ..)
 case h_15=>
  simp only [Sem.runT_eq]
  refine GD.after ?_
  generalize hr:(Sem.run p _ w)=r
  have h:RD w.drawn r:=by rw [← hr];exact ZB ..
  split
  ·exact GD.le h (Zb8 ..)
  ·exact trivial
 case h_18=>
  simp only [Sem.runT_eq]
  refine GD.after ?_
  generalize hr:(Sem.run p _ w)=r
  have h:RD w.drawn r:=by rw [← hr];exact ZB ..
  split
  ·exact h
  ·exact h
  ·exact trivial
 case h_22=>
  split
  ·exact Nat.le_refl _
  ·generalize hr:(Sem.run p _ w)=r
   have h:RD w.drawn r:=by rw [← hr];exact ZB ..
   split
   ·exact h
   ·exact trivial
 case h_24=>
  split
  ·exact Zj7 ..
  ·exact Nat.le_refl _
 all_goals first
  |exact Nat.le_refl _
  |exact trivial
  |exact Zik trivial (fun _=>Zb8 ..)
  |(refine Zb8 p listen _ cs dy _ w)
  |(split<;>first|exact Nat.le_refl _|exact trivial)
theorem ZiM (p:Program) (main:Bool) (g:Goroutine) (w:World) (listen:Bool):GD w.drawn (stepG p main g w listen):=by
 unfold stepG
 dsimp only
 split
 ·exact Zlb ..
 ·exact Zkq ..
 ·exact Zhi ..
def SD (d:Nat):Stepped→Prop
 | .next m=>d≤m.world.drawn
 | .ended _ _=>True
theorem ZhX (p:Program) (gs:Array Goroutine) (rest:Rest) (w:World):SD w.drawn (look p gs rest w):=by
 unfold look
 split
 ·dsimp only
  split
  ·exact trivial
  ·split
   ·exact trivial
   ·generalize hr:(Sem.run p _ w)=r
    have h:RD w.drawn r:=by rw [← hr];exact ZB ..
    split
    ·exact h
    ·exact trivial
    ·exact trivial
 ·exact trivial
theorem ZiS (p:Program) (m:Machine) (k:Nat):SD m.world.drawn (serve p m k):=by
 unfold serve
 split
 ·exact trivial
 ·exact Nat.le_refl _
 ·dsimp only
  split
  ·exact trivial
  ·exact Nat.le_refl _
theorem ZjX {rest:Rest} {cs:Array CommCase} {w w':World} (h:waitingAt rest cs w=some w'):w'.drawn=w.drawn:=by
 unfold waitingAt at h
 split at h
 ·split at h
  ·obtain rfl:=Option.some.inj h;rfl
  ·cases h
 ·obtain rfl:=Option.some.inj h;rfl
theorem Zkw (p:Program) (rest:Rest) (gs:Array Goroutine) (i:Nat) (g:Goroutine) (cases:Array CommCase) (bl:Bool) (sh:CommShape) (w:World):SD w.drawn (communicate p rest gs i g cases bl sh w).1:=by
 unfold communicate
 dsimp only
 split
 ·exact trivial
 split
 ·split
  ·split
   ·rename_i h
    exact Nat.le_of_eq (ZjX h).symm
   ·exact trivial
  ·exact Nat.le_refl _
 ·generalize hr:(Sem.run p _ w)=r
  have h:RD w.drawn r:=by rw [← hr];exact ZB ..
  cases r with
  |halt k w'=>exact trivial
  |ok a w'=>
   obtain⟨k,c,way⟩:=a
   have h:w.drawn≤w'.drawn:=h
   dsimp only
   split
   ·generalize hr2:(Sem.run p _ w')=r2
    have h2:RD w'.drawn r2:=by rw [← hr2];exact ZB ..
    split
    ·exact Nat.le_trans h h2
    ·exact trivial
   ·exact h
   ·exact h
   ·split
    ·exact h
    ·generalize hr2:(Sem.run p _ w')=r2
     have h2:RD w'.drawn r2:=by rw [← hr2];exact ZB ..
     split
     ·exact Nat.le_trans h h2
     ·exact trivial
   ·exact h
   ·exact h
   ·exact trivial
theorem Zjt (w:World) (c:Nat):(drain w c).2.drawn=w.drawn:=by
 unfold drain
 split<;>rfl
theorem Zea (m:Machine) (k:Nat) (t:Timer) (a b:Nat):(retime m k t a b).2.world.drawn=m.world.drawn:=by
 unfold retime
 dsimp only
 split
 ·exact Zjt ..
 ·rfl
theorem ZfU {m:Machine} {var:Addr} {f:Nat→Timer→Value×Machine} {r:Value×Machine} {d:Nat} (hf:∀ k t,(f k t).2.world.drawn=d) (h:timerOp.named m var f= .ok r):r.2.world.drawn=d:=by
 unfold timerOp.named at h
 split at h
 ·obtain rfl:=Except.ok.inj h
  exact hf _ _
 ·cases h
theorem ZiI {m:Machine} {op:TimerOp} {r:Value×Machine} (h:timerOp m op= .ok r):r.2.world.drawn=m.world.drawn:=by
 unfold timerOp at h
 split at h
 ·split at h
  ·obtain rfl:=Except.ok.inj h;rfl
  ·split at h
   ·split at h
    ·cases h
    ·obtain rfl:=Except.ok.inj h;rfl
   ·cases h
 ·exact ZfU (fun k t=>Zea ..) h
 ·split at h
  ·rename_i m' hm
   refine ZfU (fun k t=> ?_) h
   rw [Zea]
   unfold timerOp.opened at hm
   split at hm
   ·split at hm
    ·obtain rfl:=Option.some.inj hm;rfl
    ·cases hm
   ·obtain rfl:=Option.some.inj hm;rfl
  ·cases h
 ·obtain rfl:=Except.ok.inj h;rfl
theorem Zj4 (p:Program) (m:Machine) (i:Nat) (listen:Bool):SD m.world.drawn (runT p m i listen).1:=by
 unfold runT
 dsimp only
 generalize m.gs.swapAt! i { (default:Goroutine) with status:= .finished }=q
 obtain⟨g,gs⟩:=q
 dsimp only
 have hs:=ZiM p (i==0) g m.world listen
 generalize stepG p (i==0) g m.world listen=s at hs
 cases s with
 |ended o w es=>exact trivial
 |comm g cases bl sh w es=>
  have hs:m.world.drawn≤w.drawn:=hs
  have h:=Zkw p m.rest gs i g cases bl sh w
  dsimp only
  generalize communicate p m.rest gs i g cases bl sh w=c at h
  obtain⟨r,more⟩:=c
  cases r with
  |next m'=>exact Nat.le_trans hs h
  |ended _ _=>exact trivial
 |go g w es=>exact hs
 |spawn g c w es=>exact hs
 |count g w es=>
  dsimp only
  split
  ·exact trivial
  ·exact hs
 |alone g on w es=>exact hs
 |collect g w es=>
  have hs:m.world.drawn≤w.drawn:=hs
  have h:=ZhX p (gs.setIfInBounds i g) m.rest w
  dsimp only
  generalize look p (gs.setIfInBounds i g) m.rest w=r at h
  cases r with
  |next m'=>exact Nat.le_trans hs h
  |ended _ _=>exact trivial
 |watch g w es=>exact hs
 |newcoro g c d w es=>exact hs
 |coroswitch g c ex w es=>
  have hs:m.world.drawn≤w.drawn:=hs
  dsimp only
  split
  ·exact hs
  ·exact hs
  ·exact trivial
 |timer g op w es=>
  have hs:m.world.drawn≤w.drawn:=hs
  dsimp only
  split
  ·rename_i v m' hm
   have:=ZiI hm
   show m.world.drawn≤m'.world.drawn
   have e:m'.world.drawn=w.drawn:=this
   omega
  ·exact hs
  ·exact trivial
  ·exact trivial
def MD (d:Nat):Move→Prop
 | .goroutine m _=>d≤m.world.drawn
 | .machine s _=>SD d s
theorem ZdR (p:Program) (m:Machine):MD m.world.drawn (askOn p m):=by
 have pick:∀ (rs:List Nat) (m':Machine),m.world.drawn≤m'.world.drawn→MD m.world.drawn (match (choose (.sched rs.length)).run p m'.world with
   | .halt _ w => .machine (.ended (.stuck "sched" "") w)
   | .ok k world=>
    if rs.length≤1 then .goroutine { m' with world } (rs.getD k 0) else
    match (choose (.extern "sched.slice" 65536)).run p world with
    | .halt _ w => .machine (.ended (.stuck "sched.slice" "") w)
    | .ok n world=> .goroutine { m' with world,rest:={ m'.rest with slice:=if n=0 then none else some (rs.getD k 0,n) } } (rs.getD k 0)):=fun rs m' hm=>by
  have h:=ZB p (choose (.sched rs.length)) m'.world
  generalize (choose (.sched rs.length)).run p m'.world=r at h
  cases r with
  |halt k w=>exact trivial
  |ok k w=>
   have h:m'.world.drawn≤w.drawn:=h
   dsimp only
   split
   ·exact Nat.le_trans hm h
   ·have h2 := ZB p (choose (.extern "sched.slice" 65536)) w
    generalize (choose (.extern "sched.slice" 65536)).run p w = r2 at h2
    cases r2 with
    |halt k w=>exact trivial
    |ok k w2=>exact Nat.le_trans hm (Nat.le_trans h h2)
 unfold askOn
 dsimp only
 generalize hr:(Sem.run p _ m.world)=r
 have h:RD m.world.drawn r:=by rw [← hr];exact ZB ..
 cases r with
 |halt k w=>exact trivial
 |ok k w=>
  have h:m.world.drawn≤w.drawn:=h
  dsimp only
  split
  ·have:=ZiS p { m with world:=w } ((due m.rest.timers m.world.os.mono).getD k 0)
   show SD _ _
   generalize serve p { m with world:=w } ((due m.rest.timers m.world.os.mono).getD k 0)=s at this
   cases s with
   |next m'=>exact Nat.le_trans h this
   |ended _ _=>exact trivial
  split
  ·split
   ·exact h
   ·split
    ·exact h
    ·split
     ·exact trivial
     ·exact trivial
  ·split
   ·exact pick _ { m with world:=w } h
   ·generalize hr2:(Sem.run p _ w)=r2
    have h2:RD w.drawn r2:=by rw [← hr2];exact ZB ..
    cases r2 with
    |halt k w=>exact trivial
    |ok k2 w2=>
     have h2:w.drawn≤w2.drawn:=h2
     match k2 with
     |0=>exact pick _ { m with world:=w2 } (Nat.le_trans h h2)
     |1=>exact Nat.le_trans h h2
     |k3+2=>exact pick _ (Machine.advanceTo { m with world:=w2 } _) (Nat.le_trans h h2)
theorem MD.le {d d':Nat} (h:d≤d'):∀ {mv:Move},MD d' mv→MD d mv
 | .goroutine _ _,k=>Nat.le_trans h k
 | .machine (.next _) _,k=>Nat.le_trans h k
 | .machine (.ended _ _) _,_=>trivial
theorem ZjV (p:Program) (m:Machine):MD m.world.drawn (ask p m):=by
 unfold ask
 split
 ·generalize hr:(Sem.run p _ m.world)=r
  have h:RD m.world.drawn r:=by rw [← hr];exact ZB ..
  split
  ·exact trivial
  ·rename_i w
   have hl:=ZhX p m.gs m.rest w
   have h:m.world.drawn≤w.drawn:=h
   split
   ·rename_i heq
    rw [heq] at hl
    exact MD.le (Nat.le_trans h hl) (ZdR ..)
   ·generalize look p m.gs m.rest w=e at hl
    cases e with
    |next m'=>exact Nat.le_trans h hl
    |ended _ _=>exact trivial
  ·rename_i w _
   exact MD.le h (ZdR p { m with world:=w })
 ·exact ZdR ..
theorem Zka (p:Program) (m:Machine):MD m.world.drawn (move p m):=by
 unfold move
 split
 ·split
  ·exact Nat.le_refl _
  ·exact trivial
 ·split
  ·split
   ·exact Nat.le_refl _
   ·exact ZjV ..
  ·exact ZjV ..
theorem Zj2 (p:Program) (m:Machine):SD m.world.drawn (step p m):=by
 unfold step stepT
 have h:=Zka p m
 generalize move p m=mv at h
 cases mv with
 |goroutine m' i=>
  have h:m.world.drawn≤m'.world.drawn:=h
  have h2:=Zj4 p m' i true
  dsimp only
  generalize (runT p m' i true).1=s at h2
  cases s with
  |next _=>exact Nat.le_trans h h2
  |ended _ _=>exact trivial
 |machine s _=>exact h
theorem ZfG {p:Program} {m m':Machine} (h:Steps p m m'):m.world.drawn≤m'.world.drawn:=by
 obtain⟨n,h⟩:=h
 induction n generalizing m with
 |zero=>obtain rfl:=Stepped.next.inj (show Stepped.next m= .next m' from h);exact Nat.le_refl _
 |succ n ih=>
  simp only [runN] at h
  have hs:=Zj2 p m
  generalize step p m=s at h hs
  cases s with
  |next m1=>exact Nat.le_trans hs (ih h)
  |ended _ _=>cases h
theorem Zjz {P:Program} {f:FuncId} {args:Array Value} {w:World} {R:Ending→World→Prop} (h:Calls P f args w R) (hR:∀ e w',R e w'→e≠ .outgrown):Calls P f args w fun e w'=>R e w'∧w.drawn≤w'.drawn:=by
 intro cs
 obtain⟨e,w',fr,hr,hc,h1,h2⟩:=h cs
 refine⟨e,w',fr,⟨hr,?_⟩,hc,h1,h2⟩
 cases e with
 |returned v=>exact ZfG (m:=lone _ cs w) (m':=lone fr cs w') hc
 |panicked c=>exact ZfG (m:=lone _ cs w) (m':=lone fr cs w') hc
 |outgrown=>exact absurd rfl (hR _ _ hr)
theorem Zkm {w w':World} (h:Below w.heap.size w w') (hd:w.drawn≤w'.drawn):∃ q os,w'=grow (w.drewN q) os:=by
 refine⟨w'.drawn - w.drawn,w'.heap.extract w.heap.size w'.heap.size,?_⟩
 have hh:w'.heap=w.heap++w'.heap.extract w.heap.size w'.heap.size:=by
  apply Array.ext_getElem?
  intro i
  by_cases hi:i< w.heap.size
  ·rw [Array.getElem?_append_left hi,h.block i hi]
  ·rw [Array.getElem?_append_right (by omega),Array.getElem?_extract]
   have hs:=h.size
   split
   ·congr 1;omega
   ·rename_i hn
    simp only [Nat.min_self] at hn
    rw [Array.getElem?_eq_none (by omega)]
 obtain⟨h1,t1,d1,o1,p1⟩:=w'
 obtain⟨h0,t0,d0,o0,p0⟩:=w
 have e1:=h.os
 have e2:=h.tape
 have e3:=h.output
 simp only at e1 e2 e3 hd hh
 subst e1 e2 e3
 unfold grow World.drewN
 simp only [World.mk.injEq,true_and,and_true]
 exact⟨hh,by omega⟩
theorem calls_grow {P:Program} {f:FuncId} {args:Array Value} {w:World} {v:Value} (h:Calls P f args w fun e w'=>e= .returned v∧Below w.heap.size w w'):
  Calls P f args w fun e w'=>e= .returned v∧∃ q os,w'=grow (w.drewN q) os:=
 (Zjz h fun e w' h=>by rw [h.1];exact fun h=>nomatch h).mono fun _ _ ⟨⟨he,hb⟩,hd⟩=>⟨he,Zkm hb hd⟩
end Go.Proofs.YtcogfmileelkeaaDoor.dr
namespace Go.Proofs.YtcogfmileelkeaaDoor.eng
open Go.RowKit Go.Shelf Go.Sort mem
section
variable {α : Type} [Inhabited α] {enc : α → List Value} {k : Nat}
theorem Za3 (w:World) (b off n:Nat) (d:Array α) (os:Array Obj) {i:Nat} (hi:i< w.heap.size):(sortWorldK enc k w b off n d os).heap[i]? =if b=i then (w.heap[i]?).map (onCells (putCells id off (flatK enc k d))) else w.heap[i]? :=by
 unfold sortWorldK grow putRowK putRow mapBlock
 simp only [heap_ahead]
 rw [Array.getElem?_append_left (by simpa using hi),Array.getElem?_modify]
theorem Zbm (w:World) (b off n:Nat) (d:Array α) (os:Array Obj) {K:Nat→Prop} (hK:∀ i,K i→i< w.heap.size∧i≠b):Bel K w (sortWorldK enc k w b off n d os):=by
 refine⟨rfl,rfl,rfl,?_,fun i hi=> ?_⟩
 ·unfold sortWorldK grow putRowK putRow mapBlock
  simp only [heap_ahead,Array.size_append,Array.size_modify]
  omega
 ·obtain⟨h1,h2⟩:=hK i hi
  rw [Za3 w b off n d os h1,if_neg (fun e=>h2 e.symm)]
theorem Zf6 {d:Array α} (hk:∀ x,(enc x).length=k) {i j:Nat} {x:α} {v:Value} (hi:d.toList[i]? =some x) (hj:(enc x)[j]? =some v):(flatK enc k d).toList[i*k+j]? =some v:=by
 have h1:i< d.size:=by have:=(List.getElem?_eq_some_iff.1 hi).1;simpa using this
 have h2:j< k:=by rw [← hk x];exact(List.getElem?_eq_some_iff.1 hj).1
 have h3:i*k+j< d.size*k:=by
  have:(i+1)*k≤d.size*k:=Nat.mul_le_mul_right _ h1
  rw [Nat.add_mul,Nat.one_mul] at this;omega
 have e1:(i*k+j) / k=i:=by rw [Nat.mul_comm,Nat.mul_add_div (by omega),Nat.div_eq_of_lt h2];omega
 have e2:(i*k+j) % k=j:=by rw [Nat.mul_comm,Nat.mul_add_mod,Nat.mod_eq_of_lt h2]
 have e3:d[i]! =x:=by
  rw [getElem!_pos d i h1]
  have:=(List.getElem?_eq_some_iff.1 hi).2
  simpa using this
 rw [Array.getElem?_toList]
 unfold flatK
 rw [Array.getElem?_map,Array.getElem?_range,if_pos h3]
 simp only [Option.map_some,e1,e2,e3]
 rw [List.getElem!_eq_getElem?_getD,hj];rfl
theorem Zht {P:Program} {ρ:Ren} {G:World→Prop} (L:SlLaysF0.n6 P ρ) (aE:∀ w,(isAgg (ρ.t 24)).run P w= .ok true w) (zE:∀ w,(Go.sizeOf (ρ.t 24)).run P w= .ok k w) (hk:∀ x,(enc x).length=k) (hk0:0< k)
  (hf:∀ x,∀ v,v∈enc x→flat v=true) (cf:α→α→Int) (hO:SWO (ltOf cf)) (g:Nat) (eg:Enters P g)
  (hcmp:∀ x y w,G w→Calls P g #[.agg (enc x).toArray,.agg (enc y).toArray] w fun e w'=>e= .returned (.int .i64 (cf x y))∧Below w.heap.size w w')
  (T:Nat) (l:List α) (hl:l.length≤1099511627776):
  SpecS P G (ρ.f 6) [.val (.one (.row 1000 0)),.val (.one (.d (.v (.func (.func g) #[] #[]))))] T k (l.map fun x=>(enc x).map D.v) (.tup [])
   ((pdq (ltOf cf) l.toArray 0 l.length (Lib.bitLen l.length) true true).toList.map fun x=>(enc x).map D.v):=by
 have hps:=pdq_sorts (ltOf cf) hO l.toArray 0 l.length (Lib.bitLen l.length) true true (Nat.zero_le _) (by simp) (Or.inl rfl)
 generalize hd':pdq (ltOf cf) l.toArray 0 l.length (Lib.bitLen l.length) true true=d' at hps
 have hsz:d'.size=l.length:=by have:=hps.1.1;simpa using this
 refine⟨fun args w=>L.f6.enters rfl args w,fun w I vs x hG hI hob hrel=> ?_⟩
 obtain⟨fv,rfl,hfv⟩:∃ fv,vs= [x,fv]∧fv= .func (.func g) #[] #[]:=by
  obtain⟨h1,h2⟩:=hrel
  match vs,h1 with
  | [y,z],_=>
   have hy:=h2 0 _ y rfl rfl
   have hz:=h2 1 _ z rfl rfl
   have e1:y=x:=hy.2 T k (l.map fun x=>(enc x).map D.v) true rfl
   exact⟨z,by rw [e1],Zd hz⟩
 subst hfv
 obtain⟨ys,hown,hn0,hyl,hxl,hdd⟩:=hob
 rw [List.length_map] at hown hyl
 have hrows:∀ r,r∈(d'.toList.map fun x=>(enc x).map D.v)→r.length=k:=fun r hr=>by
  obtain⟨a,_,rfl⟩:=List.mem_map.1 hr
  rw [List.length_map,hk]
 have hlen':(d'.toList.map fun x=>(enc x).map D.v).length=l.length:=by rw [List.length_map,Array.length_toList,hsz]
 rcases hown.2 with ⟨e1,e2⟩|⟨b,cap,cur,e1,e2,e3,e4,e5,e6,e7⟩
 ·subst e1
  have hl0:l= []:=List.eq_nil_of_length_eq_zero e2
  have hd0:d'.toList= []:=List.eq_nil_of_length_eq_zero (by rw [Array.length_toList,hsz,e2])
  refine(AnyF.slices_SortFunc_none L none 0 _ w).mono fun e w' ⟨h1,h2⟩=>⟨_,h1,⟨[],rfl,rfl,fun j s y hs=>by simp at hs⟩,?_,by rw [h2];exact Bel.refl _ _⟩
  rw [h2,hd0]
  exact⟨[],Zap _ w _ _,hn0,by simp,fun r hr=>by simp at hr,fun i j r d hi=>by simp at hi⟩
 ·subst e1
  have hblk:b< w.heap.size:=(Array.getElem?_eq_some_iff.1 e3).1
  have hcs:cur.size=cap*k:=e6
  have hcap:l.length*k≤cap*k:=Nat.mul_le_mul_right _ e4
  have hcur:∀ i j (a:α) (v:Value),l[i]? =some a→(enc a)[j]? =some v→cur.toList[i*k+j]? =some v:=by
   intro i j a v hi hj
   obtain⟨y,hy,hd⟩:=hdd i j ((enc a).map D.v) (.v v) (by rw [List.getElem?_map,hi];rfl) (by rw [List.getElem?_map,hj];rfl)
   have e:y=v:=by cases hd;rfl
   subst e
   rw [← e7] at hy
   have hlt:i*k+j< l.length*k:=by
    have:=(List.getElem?_eq_some_iff.1 hy).1
    rw [List.length_take] at this;omega
   rwa [List.getElem?_take_of_lt hlt] at hy
  have hH:HoldsK enc k w b 0 l.toArray:=by
   intro t ht
   rw [size_flatK] at ht
   have ht':t< l.length*k:=by simpa using ht
   have hi:t / k< l.length:=Nat.div_lt_of_lt_mul (by rw [Nat.mul_comm];exact ht')
   have hj:t % k< k:=Nat.mod_lt _ hk0
   have ei:=List.getElem?_eq_getElem hi
   have ej:(enc l[t / k])[t % k]? =some ((enc l[t / k])[t % k]'(by rw [hk];exact hj)):=List.getElem?_eq_getElem _
   have h1:=hcur (t / k) (t % k) _ _ ei ej
   have h2:=Zf6 (d:=l.toArray) (i:=t / k) hk (show l.toArray.toList[t / k]? =some _ from ei) ej
   have et:t / k*k+t % k=t:=by rw [Nat.mul_comm];exact Nat.div_add_mod t k
   rw [et] at h1 h2
   have h3:(flatK enc k l.toArray)[t]! =(enc l[t / k])[t % k]'(by rw [hk];exact hj):=by
    rw [Array.getElem?_toList] at h2
    have:=(Array.getElem?_eq_some_iff.1 h2)
    obtain⟨g1,g2⟩:=this
    rw [getElem!_pos _ t g1,g2]
   refine⟨?_,?_⟩
   ·unfold World.cell?
    simp only [e3,Nat.zero_add,Option.isSome_none,Bool.false_eq_true,if_false]
    rw [← Array.getElem?_toList,h1,h3];rfl
   ·unfold World.frozen?
    simp only [e3]
    simp
  have hKb:∀ i,(Base.less w (.slice (some ⟨b,0,none⟩) l.length cap)).K i→i< w.heap.size∧i≠b:=fun i hi=>⟨hi.1,fun e=>hi.2 (by rw [e];rfl)⟩
  have hC:CmpLays P g #[] enc k cf b 0 l.toArray.size w:=by
   intro m os dk hdk y z
   have hGW:=hG _ (Zbm (enc:=enc) (k:=k) w b 0 m dk os hKb)
   exact dr.calls_grow (hcmp y z _ hGW)
  have hc:=AnyQ.slices_SortFunc_eq L k aE zE enc hk (fun x v hv=>by rw [Za0];exact hf x v hv) cf hO g #[] b 0 cap l.toArray w eg hC hH hblk (by simp;omega)
  have hsa:l.toArray.size=l.length:=by simp
  rw [hsa,hd'] at hc
  refine hc.mono fun e w' ⟨h1,n,os,h2⟩=>⟨_,h1,⟨[],rfl,rfl,fun j s y hs=>by simp at hs⟩,?_,by rw [h2];exact Zbm w b 0 n d' os hKb⟩
  have hheap:w'.heap[b]? =some (.cells (putCells id 0 (flatK enc k d') cur) T (0,0)):=by
   rw [h2,Za3 w b 0 n d' os hblk,if_pos rfl,e3];rfl
  have hfs:(flatK enc k d').size=l.length*k:=by rw [size_flatK,hsz]
  have htake:(putCells id 0 (flatK enc k d') cur).toList.take (l.length*k)=(flatK enc k d').toList:=by
   apply List.ext_getElem?
   intro t
   by_cases ht:t< l.length*k
   ·rw [List.getElem?_take_of_lt ht,Array.getElem?_toList,Array.getElem?_toList]
    have h5:t< cur.size:=by omega
    have h6:t< (flatK enc k d').size:=by omega
    unfold putCells
    rw [Array.getElem?_mapIdx,Array.getElem?_eq_getElem h5,Array.getElem?_eq_getElem h6]
    simp only [Option.map_some]
    rw [if_pos ⟨Nat.zero_le _,by rw [Nat.zero_add];exact h6⟩,Nat.sub_zero,getElem!_pos _ t h6];rfl
   ·rw [List.getElem?_eq_none (by rw [List.length_take];omega),List.getElem?_eq_none (by rw [Array.length_toList,hfs];omega)]
  refine⟨(flatK enc k d').toList,⟨by rw [hlen'];simpa using hfs,.inr ⟨b,cap,putCells id 0 (flatK enc k d') cur,by rw [hlen'],e2,hheap,by rw [hlen'];exact e4,e5,by simp [putCells,e6],by rw [hlen'];exact htake⟩⟩,hn0,by rw [hlen'];simpa using hfs,hrows,fun i j r d hi hj=> ?_⟩
  rw [List.getElem?_map] at hi
  cases ha:d'.toList[i]? with
  |none=>rw [ha] at hi;simp at hi
  |some a=>
   rw [ha] at hi
   obtain rfl:=Option.some.inj hi
   rw [List.getElem?_map] at hj
   cases hv:(enc a)[j]? with
   |none=>rw [hv] at hj;simp at hj
   |some v=>
    rw [hv] at hj
    obtain rfl:=Option.some.inj hj
    exact⟨v,Zf6 hk ha hv,Den.v v (hf a v (List.mem_of_getElem? hv))⟩
theorem Zhq (cf:α→α→Int) (hO:SWO (ltOf cf)) (l:List α):∃ l',l'.Perm l∧l'.Pairwise (fun x y=>¬ cf y x< 0)∧(pdq (ltOf cf) l.toArray 0 l.length (Lib.bitLen l.length) true true).toList=l':=by
 have hps:=pdq_sorts (ltOf cf) hO l.toArray 0 l.length (Lib.bitLen l.length) true true (Nat.zero_le _) (by simp) (Or.inl rfl)
 generalize pdq (ltOf cf) l.toArray 0 l.length (Lib.bitLen l.length) true true=d' at hps
 obtain⟨⟨h1,h2,h3⟩,h4⟩:=hps
 have hsz:d'.size=l.length:=by simpa using h1
 refine⟨_,?_,?_,rfl⟩
 ·have e1:d'.extract 0 l.length=d':=by rw [← hsz];simp
  have e2:l.toArray.extract 0 l.length=l.toArray:=by
   have:l.toArray.size=l.length:=by simp
   rw [← this];simp
  rw [e1,e2] at h3
  simpa using h3
 ·refine List.pairwise_iff_getElem.2 fun i j hi hj hij=> ?_
  have hi':i< d'.size:=by simpa using hi
  have hj':j< d'.size:=by simpa using hj
  have:=h4 i j (Nat.zero_le _) hij (by omega)
  rw [getElem!_pos d' i hi',getElem!_pos d' j hj'] at this
  unfold ltOf at this
  simpa using this
end
end Go.Proofs.YtcogfmileelkeaaDoor.eng
