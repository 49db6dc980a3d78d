/- Joined by wip/bundle.py: XAbs XTck0. -/
import Derived.Test.YtbgokkfhohodgaaGreatDoorGrpA
import Derived.Test.YtbgokkfhohodgaaGreatDoorGrpO
import Derived.Test.YtbgokkfhohodgaaGreatDoorFore0
namespace Go.Proofs.YtbgokkfhohodgaaGreatDoor.eng
open Go.RowKit num mem seg q held ratA ratB ratC ratD ratE vars ratF natC natD natI
section
variable {K : AV → Prop} {x : RV} {q : Rat}
def absV (p:Rat):Rat:=if p.num< 0 then -p else p
theorem ZlF (p:Rat):cn (absV p)=⟨false,(cn p).a,(cn p).d⟩:=by
 unfold absV cn
 split
 ·rename_i h
  rw [Rat.neg_num,Rat.neg_den,Int.natAbs_neg,decide_eq_false (by omega)]
 ·rename_i h
  rw [decide_eq_false h]
theorem Zll (p:Rat):qs (absV p)=qs p:=by
 unfold absV
 split
 ·exact Zgb p
 ·rfl
theorem Zmu (hx:x.z≤4398046511104) (k:∀ q,q=absV x.q→(cn q).z≤x.z+1→K (rat (cn q))):Ask 45 [rat x] K:=by
 refine use (r:=rat (cn (absV x.q))) ?_ rfl (k _ rfl (by have:=x.z1;rw [cn_z,Zll];omega))
 refine Ze Tryz.func45 rfl rfl Tryz.ntmps45 rfl (by kernel_rfl) rfl rfl ?_
 refine Zm8 (by omega) fun q h z=> ?_
 refine Eq.trans (b:=rat ⟨false,(cn q).a,(cn q).d⟩) ?_ rfl
 rw [ZlF,h]
end
end Go.Proofs.YtbgokkfhohodgaaGreatDoor.eng
namespace Go.Proofs.YtbgokkfhohodgaaGreatDoor.eng
open Go.RowKit num mem seg q held ratA ratB ratC ratD ratE vars ratF
def firstE (f:Nat→Int):Nat→Int
 |0=>0
 |n+1=>if firstE f n=0 then f n else firstE f n
theorem Zd5 {f:Nat→Int}:∀ {n:Nat},(∀ j,j< n→f j=0)→firstE f n=0
 |0,_=>rfl
 |n+1,h=>by
  unfold firstE
  rw [if_pos (Zd5 fun j hj=>h j (by omega)),h n (by omega)]
theorem ZeO {f:Nat→Int} {i:Nat} (h:∀ j,j< i→f j=0) (hi:f i≠0):∀ {n:Nat},i< n→firstE f n=f i
 |0,hn=>absurd hn (by omega)
 |n+1,hn=>by
  unfold firstE
  by_cases e:i=n
  ·subst e;rw [if_pos (Zd5 h)]
  ·rw [ZeO h hi (n:=n) (by omega),if_neg hi]
def fastP (A:ArmV) (p k:Int×List RV):Prop:=∃ (i:Nat) (l:LinkV) (x y:RV),A.links[i]? =some l∧p.2[i]? =some x∧k.2[i]? =some y∧l.speed.q*(((k.1 - p.1:Int)):Rat)< absV (y.q - x.q)
noncomputable def key1 (A:ArmV) (k:Int×List RV):Int:=if k.1< 0∨2000< k.1 then 1 else fitsE A k.2
open Classical in
noncomputable def key2 (A:ArmV) (p k:Int×List RV):Int:=if key1 A k=0 then (if k.1≤p.1 then 9 else if fastP A p k then 19 else 0) else key1 A k
def tAt (t:List (Int×List RV)) (i:Nat):Int×List RV:=(t[i]?).getD (0, [])
noncomputable def keyE (A:ArmV) (t:List (Int×List RV)) (i:Nat):Int:=if i=0 then key1 A (tAt t i) else key2 A (tAt t (i - 1)) (tAt t i)
noncomputable def trackE (A:ArmV) (t:List (Int×List RV)):Int:=if armE A=0 then (if t.length=0 then 14 else if 60< t.length then 2 else firstE (keyE A t) t.length) else armE A
theorem Zee {t:List (Int×List RV)} {i:Nat} {k:Int×List RV} (h:t[i]? =some k):tAt t i=k:=by simp [tAt,h]
theorem Zgq {A:ArmV} {q:List RV} (h:fitsE A q=0):q.length=A.links.length∧armE A=0:=by
 unfold fitsE at h
 by_cases g:hasE A (q.length:Int)=0
 ·obtain⟨h1,h2⟩:=ZiW.1 g
  exact⟨by omega,h1⟩
 ·rw [if_neg g] at h;exact absurd h g
theorem Zd0 {A:ArmV} {k:Int×List RV}:key1 A k=0↔(0≤k.1∧k.1≤2000)∧fitsE A k.2=0:=by
 unfold key1
 by_cases h:k.1< 0∨2000< k.1
 ·rw [if_pos h];constructor
  ·intro e;exact absurd e (by decide)
  ·rintro⟨⟨a,b⟩,_⟩;omega
 ·rw [if_neg h]
  exact⟨fun e=>⟨by omega,e⟩,fun e=>e.2⟩
theorem Zmj {A:ArmV} {t:List (Int×List RV)} {k:Int×List RV} (h:t[0]? =some k):keyE A t 0=key1 A k:=by
 unfold keyE;rw [if_pos rfl,Zee h]
theorem ZiI {A:ArmV} {t:List (Int×List RV)} {i:Nat} {p k:Int×List RV} (h0:0< i) (hp:t[i - 1]? =some p) (h:t[i]? =some k):keyE A t i=key2 A p k:=by
 unfold keyE;rw [if_neg (by omega),Zee hp,Zee h]
theorem ZkX {A:ArmV} {p k:Int×List RV} (h:key1 A k≠0):key2 A p k=key1 A k:=if_neg h
theorem Zmk {A:ArmV} {p k:Int×List RV} (h:key1 A k=0) (g:k.1≤p.1):key2 A p k=9:=by unfold key2;rw [if_pos h,if_pos g]
theorem Zlt {A:ArmV} {p k:Int×List RV} (h:key1 A k=0) (g:¬ k.1≤p.1) (f:fastP A p k):key2 A p k=19:=by unfold key2;rw [if_pos h,if_neg g,if_pos f]
theorem Zml {A:ArmV} {p k:Int×List RV} (h:key1 A k=0) (g:¬ k.1≤p.1) (f:¬ fastP A p k):key2 A p k=0:=by unfold key2;rw [if_pos h,if_neg g,if_neg f]
theorem ZiJ {A:ArmV} {t:List (Int×List RV)} {i:Nat} {k:Int×List RV} (h:t[i]? =some k) (e:keyE A t i=0):key1 A k=0:=by
 unfold keyE at e
 rw [Zee h] at e
 by_cases g:i=0
 ·rwa [if_pos g] at e
 ·rw [if_neg g] at e
  by_cases c:key1 A k=0
  ·exact c
  ·rw [ZkX c] at e;exact absurd e c
theorem ZgI {A:ArmV} {t:List (Int×List RV)} (h:¬ armE A=0):trackE A t=armE A:=if_neg h
theorem Zc9 {A:ArmV} {t:List (Int×List RV)} (h:armE A=0) (g:t.length=0):trackE A t=14:=by unfold trackE;rw [if_pos h,if_pos g]
theorem ZgH {A:ArmV} {t:List (Int×List RV)} (h:armE A=0) (g:¬ t.length=0) (f:60< t.length):trackE A t=2:=by unfold trackE;rw [if_pos h,if_neg g,if_pos f]
theorem ZaY {A:ArmV} {t:List (Int×List RV)} {i:Nat} (h:armE A=0) (f:¬ 60< t.length) (hi:i< t.length) (hb:∀ j,j< i→keyE A t j=0) (he:keyE A t i≠0):trackE A t=keyE A t i:=by
 unfold trackE;rw [if_pos h,if_neg (by omega),if_neg f,ZeO hb he hi]
theorem ZhD {A:ArmV} {t:List (Int×List RV)} (h:armE A=0) (g:¬ t.length=0) (f:¬ 60< t.length) (hb:∀ j,j< t.length→keyE A t j=0):trackE A t=0:=by
 unfold trackE;rw [if_pos h,if_neg g,if_neg f,Zd5 hb]
theorem Zcn {A:ArmV} {k:Int×List RV} (h:k.1< 0∨2000< k.1):key1 A k=1:=if_pos h
theorem Zfy {A:ArmV} {k:Int×List RV} (h:¬ k.1< 0) (g:¬ 2000< k.1):key1 A k=fitsE A k.2:=if_neg (fun e=>e.elim h g)
theorem ZiK {A:ArmV} {t:List (Int×List RV)} {i:Nat} {k:Int×List RV} (h:t[i]? =some k) (e:key1 A k≠0):keyE A t i=key1 A k:=by
 unfold keyE
 rw [Zee h]
 split
 ·rfl
 ·exact ZkX e
open Classical in
noncomputable def slB (A:ArmV) (p k:Int×List RV):Bool:=decide (¬ fastP A p k)
open Classical in
theorem ZlX {A:ArmV} {p k:Int×List RV} (h:¬ fastP A p k):slB A p k=true:=decide_eq_true h
open Classical in
theorem Zm1 {A:ArmV} {p k:Int×List RV} (h:fastP A p k):slB A p k=false:=decide_eq_false (fun g=>g h)
open Classical in
theorem Zli {A:ArmV} {p k:Int×List RV}:slB A p k=true↔¬ fastP A p k:=decide_eq_true_iff
end Go.Proofs.YtbgokkfhohodgaaGreatDoor.eng
