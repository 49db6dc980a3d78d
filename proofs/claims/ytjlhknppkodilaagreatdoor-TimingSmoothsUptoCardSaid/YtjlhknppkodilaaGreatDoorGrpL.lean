/- Joined by wip/bundle.py: XAbs XTck0 XWay0. -/
import Derived.Test.YtjlhknppkodilaaGreatDoorGrpA
import Derived.Test.YtjlhknppkodilaaGreatDoorGrpO
import Derived.Test.YtjlhknppkodilaaGreatDoorFore0
import Derived.Test.YtjlhknppkodilaaGreatDoorWg
namespace Go.Proofs.YtjlhknppkodilaaGreatDoor.eng
open Go.RowKit num mem seg q held ratA ratB ratC ratD ratE vars ratF natC natD natI
section
variable {K : AV → Prop} {x : RV} {q : Rat}
def absV (p:Rat):Rat:=if p.num< 0 then -p else p
theorem ZoJ (p:Rat):cn (absV p)=⟨false,(cn p).a,(cn p).d⟩:=by
 unfold absV cn
 split
 ·rename_i h
  rw [Rat.neg_num,Rat.neg_den,Int.natAbs_neg,decide_eq_false (by omega)]
 ·rename_i h
  rw [decide_eq_false h]
theorem ZkE (p:Rat):qs (absV p)=qs p:=by
 unfold absV
 split
 ·exact ZfR p
 ·rfl
theorem ZnP (hx:x.z≤4398046511104) (k:∀ q,q=absV x.q→(cn q).z≤x.z+1→K (rat (cn q))):Ask 11 [rat x] K:=by
 refine use (r:=rat (cn (absV x.q))) ?_ rfl (k _ rfl (by have:=x.z1;rw [cn_z,ZkE];omega))
 refine Zf Tryz.func11 rfl rfl Tryz.ntmps11 rfl (by kernel_rfl) rfl rfl ?_
 refine Zp8 (by omega) fun q h z=> ?_
 refine Eq.trans (b:=rat ⟨false,(cn q).a,(cn q).d⟩) ?_ rfl
 rw [ZoJ,h]
theorem Zol (p:Rat):q3 (absV p)= .val (.agg [.d (.v (.bool false)),.d (.list (W (w32 p.num.natAbs))),.d (.list (W (w32 p.den)))]):=by
 unfold q3 absV
 split
 ·rename_i h
  rw [Rat.neg_num,Rat.neg_den,Int.natAbs_neg,decide_eq_false (by omega)]
 ·rename_i h
  rw [decide_eq_false h]
theorem Zlm (k:∀ r,r=absV q→qs r≤qs q→K (q3 r)):Ask 23 [q3 q] K:=by
 refine use (r:=q3 (absV q)) ?_ rfl (k _ rfl (Nat.le_of_eq (ZkE q)))
 refine Zf Tryz.func23 rfl rfl Tryz.ntmps23 rfl (by kernel_rfl) rfl rfl ?_
 refine Eq.trans (b:= .val (.agg [.d (.v (.bool false)),.d (.list (W (w32 q.num.natAbs))),.d (.list (W (w32 q.den)))])) ?_ rfl
 rw [Zol]
end
end Go.Proofs.YtjlhknppkodilaaGreatDoor.eng
namespace Go.Proofs.YtjlhknppkodilaaGreatDoor.eng
open Go.RowKit num mem seg q held ratA ratB ratC ratD ratE vars ratF
def firstE (f:Nat→Int):Nat→Int
 |0=>0
 |n+1=>if firstE f n=0 then f n else firstE f n
theorem Zdk {f:Nat→Int}:∀ {n:Nat},(∀ j,j< n→f j=0)→firstE f n=0
 |0,_=>rfl
 |n+1,h=>by
  unfold firstE
  rw [if_pos (Zdk fun j hj=>h j (by omega)),h n (by omega)]
theorem Zgl {f:Nat→Int} {i:Nat} (h:∀ j,j< i→f j=0) (hi:f i≠0):∀ {n:Nat},i< n→firstE f n=f i
 |0,hn=>absurd hn (by omega)
 |n+1,hn=>by
  unfold firstE
  by_cases e:i=n
  ·subst e;rw [if_pos (Zdk h)]
  ·rw [Zgl h hi (n:=n) (by omega),if_neg hi]
theorem Zbk {A:ArmV} {q:List RV} (h:fitsE A q=0):q.length=A.links.length∧armE A=0:=by
 unfold fitsE at h
 by_cases g:hasE A (q.length:Int)=0
 ·obtain⟨h1,h2⟩:=Zff.1 g
  exact⟨by omega,h1⟩
 ·rw [if_neg g] at h;exact absurd h g
def farU (a:ArmV) (q:List RV) (n:Nat):Prop:=∃ (i:Nat) (l:LinkV) (x:RV),i< n∧a.links[i]? =some l∧q[i]? =some x∧(x.q< l.low.q∨l.high.q< x.q)
open Classical in
noncomputable def ffE (a:ArmV) (q:List RV) (n:Nat):Int:=if hasE a (q.length:Int)=0 then (if farU a q n then 17 else 0) else hasE a (q.length:Int)
theorem Zqb (a:ArmV) (q:List RV):ffE a q 0=hasE a (q.length:Int):=by
 unfold ffE
 by_cases h:hasE a (q.length:Int)=0
 ·rw [if_pos h,if_neg (by rintro⟨i,_,_,hi,_⟩;omega),h]
 ·rw [if_neg h]
theorem ZoG {a:ArmV} {q:List RV} {n:Nat} (hn:q.length≤n):ffE a q n=fitsE a q:=by
 have:farU a q n↔farQ a q:=⟨fun ⟨i,l,x,_,h⟩=>⟨i,l,x,h⟩,fun ⟨i,l,x,h1,h2,h3⟩=>⟨i,l,x,by have:=(List.getElem?_eq_some_iff.1 h2).1;omega,h1,h2,h3⟩⟩
 unfold ffE fitsE
 by_cases h:hasE a (q.length:Int)=0
 ·rw [if_pos h,if_pos h]
  by_cases g:farQ a q
  ·rw [if_pos (this.2 g),if_pos g]
  ·rw [if_neg (fun e=>g (this.1 e)),if_neg g]
 ·rw [if_neg h,if_neg h]
theorem ZlE {a:ArmV} {q:List RV} {n:Nat} (h:ffE a q n=0):hasE a (q.length:Int)=0∧¬ farU a q n:=by
 unfold ffE at h
 by_cases g:hasE a (q.length:Int)=0
 ·rw [if_pos g] at h
  refine⟨g,fun f=> ?_⟩
  rw [if_pos f] at h;exact absurd h (by decide)
 ·rw [if_neg g] at h;exact absurd h g
theorem ZpG {a:ArmV} {q:List RV} {n:Nat} (h:¬ ffE a q n=0):ffE a q (n+1)=ffE a q n:=by
 unfold ffE at h ⊢
 by_cases g:hasE a (q.length:Int)=0
 ·rw [if_pos g] at h ⊢
  rw [if_pos g]
  by_cases f:farU a q n
  ·obtain⟨i,l,x,hi,hh⟩:=f
   rw [if_pos ⟨i,l,x,by omega,hh⟩,if_pos ⟨i,l,x,hi,hh⟩]
  ·rw [if_neg f] at h;exact absurd rfl h
 ·rw [if_neg g,if_neg g]
theorem ZoF {a:ArmV} {q:List RV} {n:Nat} {l:LinkV} {x:RV} (h:ffE a q n=0) (hl:a.links[n]? =some l) (hx:q[n]? =some x) (hf:x.q< l.low.q∨l.high.q< x.q):ffE a q (n+1)=17:=by
 have g:=(ZlE h).1
 unfold ffE
 rw [if_pos g,if_pos ⟨n,l,x,by omega,hl,hx,hf⟩]
theorem Znk {a:ArmV} {q:List RV} {n:Nat} {l:LinkV} {x:RV} (h:ffE a q n=0) (hl:a.links[n]? =some l) (hx:q[n]? =some x) (hf:¬ (x.q< l.low.q∨l.high.q< x.q)):ffE a q (n+1)=0:=by
 obtain⟨g,f⟩:=ZlE h
 unfold ffE
 rw [if_pos g,if_neg]
 rintro⟨i,l',x',hi,h1,h2,h3⟩
 by_cases e:i=n
 ·subst e
  obtain rfl:=Option.some.inj (hl.symm.trans h1)
  obtain rfl:=Option.some.inj (hx.symm.trans h2)
  exact hf h3
 ·exact f ⟨i,l',x',by omega,h1,h2,h3⟩
end Go.Proofs.YtjlhknppkodilaaGreatDoor.eng
namespace Go.Proofs.YtjlhknppkodilaaGreatDoor.eng
open Go.RowKit num mem seg q held ratA ratB ratC ratD ratE vars ratF
def gdL (l:List RV):List Rat:=l.map RV.q
theorem Zlw (l:List RV):(gdL l).length=l.length:=List.length_map ..
theorem Zni {α:Type} (g:Rat→α) {l:List RV} {i:Nat} {x:RV} (h:l[i]? =some x):List.map g (gdL (l.take (i+1)))=List.map g (gdL (l.take i))++ [g x.q]:=by
 rw [List.take_add_one,h];simp [gdL]
end Go.Proofs.YtjlhknppkodilaaGreatDoor.eng
