/- Joined by wip/bundle.py: XAbs XTck0 XWay0. -/
import Derived.Test.YtpfemjpgbpnpkaaGreatDoorGrpA
import Derived.Test.YtpfemjpgbpnpkaaGreatDoorGrpO
import Derived.Test.YtpfemjpgbpnpkaaGreatDoorFore0
import Derived.Test.YtpfemjpgbpnpkaaGreatDoorWg
namespace Go.Proofs.YtpfemjpgbpnpkaaGreatDoor.eng
open Go.RowKit num mem seg q held ratA ratB ratC ratD ratE vars ratF natC natD natI
section
variable {K : AV → Prop} {x : RV} {q : Rat}
def absV (p:Rat):Rat:=if p.num< 0 then -p else p
theorem Zvp (p:Rat):cn (absV p)=⟨false,(cn p).a,(cn p).d⟩:=by
 unfold absV cn
 split
 ·rename_i h
  rw [Rat.neg_num,Rat.neg_den,Int.natAbs_neg,decide_eq_false (by omega)]
 ·rename_i h
  rw [decide_eq_false h]
theorem Zjj (p:Rat):qs (absV p)=qs p:=by
 unfold absV
 split
 ·exact Zdn p
 ·rfl
theorem ZtU (hx:x.z≤4398046511104) (k:∀ q,q=absV x.q→(cn q).z≤x.z+1→K (rat (cn q))):Ask 142 [rat x] K:=by
 refine use (r:=rat (cn (absV x.q))) ?_ rfl (k _ rfl (by have:=x.z1;rw [cn_z,Zjj];omega))
 refine Za Tryz.func142 rfl rfl Tryz.ntmps142 rfl (by kernel_rfl) rfl rfl ?_
 refine ZxX (by omega) fun q h z=> ?_
 refine Eq.trans (b:=rat ⟨false,(cn q).a,(cn q).d⟩) ?_ rfl
 rw [Zvp,h]
theorem Zuw (p:Rat):q3 (absV p)= .val (.agg [.d (.v (.bool false)),.d (.list (W (w32 p.num.natAbs))),.d (.list (W (w32 p.den)))]):=by
 unfold q3 absV
 split
 ·rename_i h
  rw [Rat.neg_num,Rat.neg_den,Int.natAbs_neg,decide_eq_false (by omega)]
 ·rename_i h
  rw [decide_eq_false h]
theorem Zph (k:∀ r,r=absV q→qs r≤qs q→K (q3 r)):Ask 146 [q3 q] K:=by
 refine use (r:=q3 (absV q)) ?_ rfl (k _ rfl (Nat.le_of_eq (Zjj q)))
 refine Za Tryz.func146 rfl rfl Tryz.ntmps146 rfl (by kernel_rfl) rfl rfl ?_
 refine Eq.trans (b:= .val (.agg [.d (.v (.bool false)),.d (.list (W (w32 q.num.natAbs))),.d (.list (W (w32 q.den)))])) ?_ rfl
 rw [Zuw]
end
end Go.Proofs.YtpfemjpgbpnpkaaGreatDoor.eng
namespace Go.Proofs.YtpfemjpgbpnpkaaGreatDoor.eng
open Go.RowKit num mem seg q held ratA ratB ratC ratD ratE vars ratF
def firstE (f:Nat→Int):Nat→Int
 |0=>0
 |n+1=>if firstE f n=0 then f n else firstE f n
theorem ZeG {f:Nat→Int}:∀ {n:Nat},(∀ j,j< n→f j=0)→firstE f n=0
 |0,_=>rfl
 |n+1,h=>by
  unfold firstE
  rw [if_pos (ZeG fun j hj=>h j (by omega)),h n (by omega)]
theorem Zfw {f:Nat→Int} {i:Nat} (h:∀ j,j< i→f j=0) (hi:f i≠0):∀ {n:Nat},i< n→firstE f n=f i
 |0,hn=>absurd hn (by omega)
 |n+1,hn=>by
  unfold firstE
  by_cases e:i=n
  ·subst e;rw [if_pos (ZeG h)]
  ·rw [Zfw h hi (n:=n) (by omega),if_neg hi]
def fastP (A:ArmV) (p k:Int×List RV):Prop:=∃ (i:Nat) (l:LinkV) (x y:RV),A.links[i]? =some l∧p.2[i]? =some x∧k.2[i]? =some y∧l.speed.q*(((k.1 - p.1:Int)):Rat)< absV (y.q - x.q)
noncomputable def key1 (A:ArmV) (k:Int×List RV):Int:=if k.1< 0∨2000< k.1 then 1 else fitsE A k.2
open Classical in
noncomputable def key2 (A:ArmV) (p k:Int×List RV):Int:=if key1 A k=0 then (if k.1≤p.1 then 9 else if fastP A p k then 19 else 0) else key1 A k
def tAt (t:List (Int×List RV)) (i:Nat):Int×List RV:=(t[i]?).getD (0, [])
noncomputable def keyE (A:ArmV) (t:List (Int×List RV)) (i:Nat):Int:=if i=0 then key1 A (tAt t i) else key2 A (tAt t (i - 1)) (tAt t i)
noncomputable def trackE (A:ArmV) (t:List (Int×List RV)):Int:=if armE A=0 then (if t.length=0 then 14 else if 60< t.length then 2 else firstE (keyE A t) t.length) else armE A
theorem Zdd {t:List (Int×List RV)} {i:Nat} {k:Int×List RV} (h:t[i]? =some k):tAt t i=k:=by simp [tAt,h]
theorem ZdF {A:ArmV} {q:List RV} (h:fitsE A q=0):q.length=A.links.length∧armE A=0:=by
 unfold fitsE at h
 by_cases g:hasE A (q.length:Int)=0
 ·obtain⟨h1,h2⟩:=ZI.1 g
  exact⟨by omega,h1⟩
 ·rw [if_neg g] at h;exact absurd h g
theorem ZbP {A:ArmV} {k:Int×List RV}:key1 A k=0↔(0≤k.1∧k.1≤2000)∧fitsE A k.2=0:=by
 unfold key1
 by_cases h:k.1< 0∨2000< k.1
 ·rw [if_pos h];constructor
  ·intro e;exact absurd e (by decide)
  ·rintro⟨⟨a,b⟩,_⟩;omega
 ·rw [if_neg h]
  exact⟨fun e=>⟨by omega,e⟩,fun e=>e.2⟩
theorem ZtJ {A:ArmV} {t:List (Int×List RV)} {k:Int×List RV} (h:t[0]? =some k):keyE A t 0=key1 A k:=by
 unfold keyE;rw [if_pos rfl,Zdd h]
theorem Zfk {A:ArmV} {t:List (Int×List RV)} {i:Nat} {p k:Int×List RV} (h0:0< i) (hp:t[i - 1]? =some p) (h:t[i]? =some k):keyE A t i=key2 A p k:=by
 unfold keyE;rw [if_neg (by omega),Zdd hp,Zdd h]
theorem Zo3 {A:ArmV} {p k:Int×List RV} (h:key1 A k≠0):key2 A p k=key1 A k:=if_neg h
theorem Zo1 {A:ArmV} {p k:Int×List RV} (h:key1 A k=0) (g:k.1≤p.1):key2 A p k=9:=by unfold key2;rw [if_pos h,if_pos g]
theorem Zo2 {A:ArmV} {p k:Int×List RV} (h:key1 A k=0) (g:¬ k.1≤p.1) (f:fastP A p k):key2 A p k=19:=by unfold key2;rw [if_pos h,if_neg g,if_pos f]
theorem ZtK {A:ArmV} {p k:Int×List RV} (h:key1 A k=0) (g:¬ k.1≤p.1) (f:¬ fastP A p k):key2 A p k=0:=by unfold key2;rw [if_pos h,if_neg g,if_neg f]
theorem Zfl {A:ArmV} {t:List (Int×List RV)} {i:Nat} {k:Int×List RV} (h:t[i]? =some k) (e:keyE A t i=0):key1 A k=0:=by
 unfold keyE at e
 rw [Zdd h] at e
 by_cases g:i=0
 ·rwa [if_pos g] at e
 ·rw [if_neg g] at e
  by_cases c:key1 A k=0
  ·exact c
  ·rw [Zo3 c] at e;exact absurd e c
theorem ZdR {A:ArmV} {t:List (Int×List RV)} (h:¬ armE A=0):trackE A t=armE A:=if_neg h
theorem Zco {A:ArmV} {t:List (Int×List RV)} (h:armE A=0) (g:t.length=0):trackE A t=14:=by unfold trackE;rw [if_pos h,if_pos g]
theorem ZdQ {A:ArmV} {t:List (Int×List RV)} (h:armE A=0) (g:¬ t.length=0) (f:60< t.length):trackE A t=2:=by unfold trackE;rw [if_pos h,if_neg g,if_pos f]
theorem Zao {A:ArmV} {t:List (Int×List RV)} {i:Nat} (h:armE A=0) (f:¬ 60< t.length) (hi:i< t.length) (hb:∀ j,j< i→keyE A t j=0) (he:keyE A t i≠0):trackE A t=keyE A t i:=by
 unfold trackE;rw [if_pos h,if_neg (by omega),if_neg f,Zfw hb he hi]
theorem ZhC {A:ArmV} {t:List (Int×List RV)} (h:armE A=0) (g:¬ t.length=0) (f:¬ 60< t.length) (hb:∀ j,j< t.length→keyE A t j=0):trackE A t=0:=by
 unfold trackE;rw [if_pos h,if_neg g,if_neg f,ZeG hb]
theorem Zbn {A:ArmV} {k:Int×List RV} (h:k.1< 0∨2000< k.1):key1 A k=1:=if_pos h
theorem ZdZ {A:ArmV} {k:Int×List RV} (h:¬ k.1< 0) (g:¬ 2000< k.1):key1 A k=fitsE A k.2:=if_neg (fun e=>e.elim h g)
theorem Zgl {A:ArmV} {t:List (Int×List RV)} {i:Nat} {k:Int×List RV} (h:t[i]? =some k) (e:key1 A k≠0):keyE A t i=key1 A k:=by
 unfold keyE
 rw [Zdd h]
 split
 ·rfl
 ·exact Zo3 e
open Classical in
noncomputable def slB (A:ArmV) (p k:Int×List RV):Bool:=decide (¬ fastP A p k)
open Classical in
theorem Zv4 {A:ArmV} {p k:Int×List RV} (h:¬ fastP A p k):slB A p k=true:=decide_eq_true h
open Classical in
theorem ZxE {A:ArmV} {p k:Int×List RV} (h:fastP A p k):slB A p k=false:=decide_eq_false (fun g=>g h)
open Classical in
theorem Zuj {A:ArmV} {p k:Int×List RV}:slB A p k=true↔¬ fastP A p k:=decide_eq_true_iff
def farU (a:ArmV) (q:List RV) (n:Nat):Prop:=∃ (i:Nat) (l:LinkV) (x:RV),i< n∧a.links[i]? =some l∧q[i]? =some x∧(x.q< l.low.q∨l.high.q< x.q)
open Classical in
noncomputable def ffE (a:ArmV) (q:List RV) (n:Nat):Int:=if hasE a (q.length:Int)=0 then (if farU a q n then 17 else 0) else hasE a (q.length:Int)
theorem Zx3 (a:ArmV) (q:List RV):ffE a q 0=hasE a (q.length:Int):=by
 unfold ffE
 by_cases h:hasE a (q.length:Int)=0
 ·rw [if_pos h,if_neg (by rintro⟨i,_,_,hi,_⟩;omega),h]
 ·rw [if_neg h]
theorem Zvd {a:ArmV} {q:List RV} {n:Nat} (hn:q.length≤n):ffE a q n=fitsE a q:=by
 have:farU a q n↔farQ a q:=⟨fun ⟨i,l,x,_,h⟩=>⟨i,l,x,h⟩,fun ⟨i,l,x,h1,h2,h3⟩=>⟨i,l,x,by have:=(List.getElem?_eq_some_iff.1 h2).1;omega,h1,h2,h3⟩⟩
 unfold ffE fitsE
 by_cases h:hasE a (q.length:Int)=0
 ·rw [if_pos h,if_pos h]
  by_cases g:farQ a q
  ·rw [if_pos (this.2 g),if_pos g]
  ·rw [if_neg (fun e=>g (this.1 e)),if_neg g]
 ·rw [if_neg h,if_neg h]
theorem ZpF {a:ArmV} {q:List RV} {n:Nat} (h:ffE a q n=0):hasE a (q.length:Int)=0∧¬ farU a q n:=by
 unfold ffE at h
 by_cases g:hasE a (q.length:Int)=0
 ·rw [if_pos g] at h
  refine⟨g,fun f=> ?_⟩
  rw [if_pos f] at h;exact absurd h (by decide)
 ·rw [if_neg g] at h;exact absurd h g
theorem Zw1 {a:ArmV} {q:List RV} {n:Nat} (h:¬ ffE a q n=0):ffE a q (n+1)=ffE a q n:=by
 unfold ffE at h ⊢
 by_cases g:hasE a (q.length:Int)=0
 ·rw [if_pos g] at h ⊢
  rw [if_pos g]
  by_cases f:farU a q n
  ·obtain⟨i,l,x,hi,hh⟩:=f
   rw [if_pos ⟨i,l,x,by omega,hh⟩,if_pos ⟨i,l,x,hi,hh⟩]
  ·rw [if_neg f] at h;exact absurd rfl h
 ·rw [if_neg g,if_neg g]
theorem Zvc {a:ArmV} {q:List RV} {n:Nat} {l:LinkV} {x:RV} (h:ffE a q n=0) (hl:a.links[n]? =some l) (hx:q[n]? =some x) (hf:x.q< l.low.q∨l.high.q< x.q):ffE a q (n+1)=17:=by
 have g:=(ZpF h).1
 unfold ffE
 rw [if_pos g,if_pos ⟨n,l,x,by omega,hl,hx,hf⟩]
theorem ZsD {a:ArmV} {q:List RV} {n:Nat} {l:LinkV} {x:RV} (h:ffE a q n=0) (hl:a.links[n]? =some l) (hx:q[n]? =some x) (hf:¬ (x.q< l.low.q∨l.high.q< x.q)):ffE a q (n+1)=0:=by
 obtain⟨g,f⟩:=ZpF h
 unfold ffE
 rw [if_pos g,if_neg]
 rintro⟨i,l',x',hi,h1,h2,h3⟩
 by_cases e:i=n
 ·subst e
  obtain rfl:=Option.some.inj (hl.symm.trans h1)
  obtain rfl:=Option.some.inj (hx.symm.trans h2)
  exact hf h3
 ·exact f ⟨i,l',x',by omega,h1,h2,h3⟩
end Go.Proofs.YtpfemjpgbpnpkaaGreatDoor.eng
namespace Go.Proofs.YtpfemjpgbpnpkaaGreatDoor.eng
open Go.RowKit num mem seg q held ratA ratB ratC ratD ratE vars ratF
def rdrs (q:List RV):List D:= [D.list (List.map rd q)]
def rdcs (q:List Rat):List D:= [D.list (List.map rdc q)]
def gdL (l:List RV):List Rat:=l.map RV.q
theorem Zhl (l:List RV):(gdL l).length=l.length:=List.length_map ..
theorem Zlf {α:Type} (g:Rat→α) {l:List RV} {i:Nat} {x:RV} (h:l[i]? =some x):List.map g (gdL (l.take (i+1)))=List.map g (gdL (l.take i))++ [g x.q]:=by
 rw [List.take_add_one,h];simp [gdL]
def wAt (L:List (List RV)) (i:Nat):List RV:=(L[i]?).getD []
theorem ZY {L:List (List RV)} {i:Nat} {q:List RV} (h:L[i]? =some q):wAt L i=q:=by simp [wAt,h]
theorem Zc2 {f:Nat→Int}:∀ {n:Nat},firstE f n=0→∀ j,j< n→f j=0
 |0,_,j,hj=>by omega
 |n+1,h,j,hj=>by
  unfold firstE at h
  by_cases z:firstE f n=0
  ·rw [if_pos z] at h
   by_cases e:j=n
   ·rw [e];exact h
   ·exact Zc2 z j (by omega)
  ·rw [if_neg z] at h;exact absurd h z
end Go.Proofs.YtpfemjpgbpnpkaaGreatDoor.eng
