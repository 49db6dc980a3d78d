/- Joined by wip/bundle.py: XAbs XTck0. -/
import Derived.Test.YtpfemjpgbpnpkaaGreatDoorCGrpA
import Derived.Test.YtpfemjpgbpnpkaaGreatDoorCGrpO
import Derived.Test.YtpfemjpgbpnpkaaGreatDoorCFore0
namespace Go.Proofs.YtpfemjpgbpnpkaaGreatDoor.eng
open Go.RowKit num mem seg q held ratA ratB ratC ratD ratE vars ratF natC natD natI
section
variable {K : AV → Prop} {x : RV} {q : Rat}
def absV (p:Rat):Rat:=if p.num< 0 then -p else p
theorem ZmD (p:Rat):qs (absV p)=qs p:=by
 unfold absV
 split
 ·exact Zg3 p
 ·rfl
theorem ZmF (p:Rat):q3 (absV p)= .val (.agg [.d (.v (.bool false)),.d (.list (W (w32 p.num.natAbs))),.d (.list (W (w32 p.den)))]):=by
 unfold q3 absV
 split
 ·rename_i h
  rw [Rat.neg_num,Rat.neg_den,Int.natAbs_neg,decide_eq_false (by omega)]
 ·rename_i h
  rw [decide_eq_false h]
theorem ZmS (k:∀ r,r=absV q→qs r≤qs q→K (q3 r)):Ask 146 [q3 q] K:=by
 refine use (r:=q3 (absV q)) ?_ rfl (k _ rfl (Nat.le_of_eq (ZmD q)))
 refine Zb Tryz.func146 rfl rfl Tryz.ntmps146 rfl (by kernel_rfl) rfl rfl ?_
 refine Eq.trans (b:= .val (.agg [.d (.v (.bool false)),.d (.list (W (w32 q.num.natAbs))),.d (.list (W (w32 q.den)))])) ?_ rfl
 rw [ZmF]
end
end Go.Proofs.YtpfemjpgbpnpkaaGreatDoor.eng
namespace Go.Proofs.YtpfemjpgbpnpkaaGreatDoor.eng
open Go.RowKit num mem seg q held ratA ratB ratC ratD ratE vars ratF
theorem Zca {A:ArmV} {q:List RV} (h:fitsE A q=0):q.length=A.links.length∧armE A=0:=by
 unfold fitsE at h
 by_cases g:hasE A (q.length:Int)=0
 ·obtain⟨h1,h2⟩:=ZaX.1 g
  exact⟨by omega,h1⟩
 ·rw [if_neg g] at h;exact absurd h g
def farU (a:ArmV) (q:List RV) (n:Nat):Prop:=∃ (i:Nat) (l:LinkV) (x:RV),i< n∧a.links[i]? =some l∧q[i]? =some x∧(x.q< l.low.q∨l.high.q< x.q)
open Classical in
noncomputable def ffE (a:ArmV) (q:List RV) (n:Nat):Int:=if hasE a (q.length:Int)=0 then (if farU a q n then 17 else 0) else hasE a (q.length:Int)
theorem Zor (a:ArmV) (q:List RV):ffE a q 0=hasE a (q.length:Int):=by
 unfold ffE
 by_cases h:hasE a (q.length:Int)=0
 ·rw [if_pos h,if_neg (by rintro⟨i,_,_,hi,_⟩;omega),h]
 ·rw [if_neg h]
theorem Zm1 {a:ArmV} {q:List RV} {n:Nat} (hn:q.length≤n):ffE a q n=fitsE a q:=by
 have:farU a q n↔farQ a q:=⟨fun ⟨i,l,x,_,h⟩=>⟨i,l,x,h⟩,fun ⟨i,l,x,h1,h2,h3⟩=>⟨i,l,x,by have:=(List.getElem?_eq_some_iff.1 h2).1;omega,h1,h2,h3⟩⟩
 unfold ffE fitsE
 by_cases h:hasE a (q.length:Int)=0
 ·rw [if_pos h,if_pos h]
  by_cases g:farQ a q
  ·rw [if_pos (this.2 g),if_pos g]
  ·rw [if_neg (fun e=>g (this.1 e)),if_neg g]
 ·rw [if_neg h,if_neg h]
theorem Zj5 {a:ArmV} {q:List RV} {n:Nat} (h:ffE a q n=0):hasE a (q.length:Int)=0∧¬ farU a q n:=by
 unfold ffE at h
 by_cases g:hasE a (q.length:Int)=0
 ·rw [if_pos g] at h
  refine⟨g,fun f=> ?_⟩
  rw [if_pos f] at h;exact absurd h (by decide)
 ·rw [if_neg g] at h;exact absurd h g
theorem ZnY {a:ArmV} {q:List RV} {n:Nat} (h:¬ ffE a q n=0):ffE a q (n+1)=ffE a q n:=by
 unfold ffE at h ⊢
 by_cases g:hasE a (q.length:Int)=0
 ·rw [if_pos g] at h ⊢
  rw [if_pos g]
  by_cases f:farU a q n
  ·obtain⟨i,l,x,hi,hh⟩:=f
   rw [if_pos ⟨i,l,x,by omega,hh⟩,if_pos ⟨i,l,x,hi,hh⟩]
  ·rw [if_neg f] at h;exact absurd rfl h
 ·rw [if_neg g,if_neg g]
theorem Zm0 {a:ArmV} {q:List RV} {n:Nat} {l:LinkV} {x:RV} (h:ffE a q n=0) (hl:a.links[n]? =some l) (hx:q[n]? =some x) (hf:x.q< l.low.q∨l.high.q< x.q):ffE a q (n+1)=17:=by
 have g:=(Zj5 h).1
 unfold ffE
 rw [if_pos g,if_pos ⟨n,l,x,by omega,hl,hx,hf⟩]
theorem ZlF {a:ArmV} {q:List RV} {n:Nat} {l:LinkV} {x:RV} (h:ffE a q n=0) (hl:a.links[n]? =some l) (hx:q[n]? =some x) (hf:¬ (x.q< l.low.q∨l.high.q< x.q)):ffE a q (n+1)=0:=by
 obtain⟨g,f⟩:=Zj5 h
 unfold ffE
 rw [if_pos g,if_neg]
 rintro⟨i,l',x',hi,h1,h2,h3⟩
 by_cases e:i=n
 ·subst e
  obtain rfl:=Option.some.inj (hl.symm.trans h1)
  obtain rfl:=Option.some.inj (hx.symm.trans h2)
  exact hf h3
 ·exact f ⟨i,l',x',by omega,h1,h2,h3⟩
end Go.Proofs.YtpfemjpgbpnpkaaGreatDoor.eng
