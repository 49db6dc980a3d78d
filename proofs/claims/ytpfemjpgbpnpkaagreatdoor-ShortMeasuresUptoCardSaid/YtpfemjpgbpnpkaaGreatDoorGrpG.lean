/- Joined by wip/bundle.py: XMea0 XMeaA XMeaR. -/
import Derived.Test.YtpfemjpgbpnpkaaGreatDoorGrpL
import Derived.Test.YtpfemjpgbpnpkaaGreatDoorGrp1
import Derived.Test.YtpfemjpgbpnpkaaGreatDoorGrpI
set_option maxRecDepth 100000
namespace Go.Proofs.YtpfemjpgbpnpkaaGreatDoor.eng
open Go.RowKit num mem seg q held ratA ratB ratC ratD ratE vars ratF
def chg (L:List (List RV)) (i k:Nat):Rat:=absV (qAt (wAt L i) k - qAt (wAt L (i - 1)) k)
def rowM (L:List (List RV)) (i:Nat):Nat→Rat
 |0=>0
 |k+1=>rowM L i k+chg L i k
def allM (L:List (List RV)) (n:Nat):Nat→Rat
 |0=>0
 |i+1=>allM L n i+rowM L i n
def meaF (L:List (List RV)) (n i k:Nat):Rat:=allM L n i+rowM L i k
theorem ZtF (L:List (List RV)) (n i k:Nat):meaF L n i (k+1)=meaF L n i k+chg L i k:=by
 show allM L n i+(rowM L i k+chg L i k)=allM L n i+rowM L i k+chg L i k
 grind
theorem ZtG (L:List (List RV)) (n i:Nat):meaF L n (i+1) 0=meaF L n i n:=by
 show allM L n i+rowM L i n+0=allM L n i+rowM L i n
 grind
theorem Zts (L:List (List RV)):∀ k,rowM L 0 k=0
 |0=>rfl
 |k+1=>by
  show rowM L 0 k+chg L 0 k=0
  rw [Zts L k]
  have:chg L 0 k=0:=by
   unfold chg
   rw [show qAt (wAt L 0) k - qAt (wAt L (0 - 1)) k=0 by show qAt (wAt L 0) k - qAt (wAt L 0) k=0;grind]
   decide+kernel
  rw [this];decide+kernel
theorem Zwp (L:List (List RV)) (n:Nat):meaF L n 1 0=0:=by
 show 0+rowM L 0 n+0=0
 rw [Zts];decide+kernel
theorem Zwq (L:List (List RV)) (n:Nat):meaF L n 0 0=0:=by
 show (0:Rat)+0=0
 decide+kernel
theorem wq_z {L:List (List RV)} (hL:∀ q,q∈L→q.length≤1048576∧∀ x,x∈q→x.z≤1048576) (i k:Nat):qs (qAt (wAt L i) k)≤1048576:=by
 unfold wAt
 cases h:L[i]? with
 |none=>exact qAt_z2 (fun x hx=>by simp at hx) k
 |some q=>exact qAt_z2 (hL q (List.mem_of_getElem? h)).2 k
theorem Zx8 {L:List (List RV)} (hL:∀ q,q∈L→q.length≤1048576∧∀ x,x∈q→x.z≤1048576) (i k:Nat):qs (chg L i k)≤2097153:=by
 unfold chg
 rw [Zjj]
 have:=ZZ (qAt (wAt L i) k) (qAt (wAt L (i - 1)) k)
 have:=wq_z hL i k
 have:=wq_z hL (i - 1) k
 omega
theorem Zn3 {L:List (List RV)} (hL:∀ q,q∈L→q.length≤1048576∧∀ x,x∈q→x.z≤1048576) (i:Nat):∀ k,qs (rowM L i k)≤8+k*2097154
 |0=>Nat.le_trans (show qs (0:Rat)≤8 by decide+kernel) (Nat.le_add_right _ _)
 |k+1=>by
  have h:=Zn3 hL i k
  have:=Zx8 hL i k
  have:=ZC (rowM L i k) (chg L i k)
  show qs (rowM L i k+chg L i k)≤_
  omega
theorem Zt8 {L:List (List RV)} (hL:∀ q,q∈L→q.length≤1048576∧∀ x,x∈q→x.z≤1048576) {n:Nat} (hn:n≤3):∀ i,qs (allM L n i)≤8+i*6291471
 |0=>Nat.le_trans (show qs (0:Rat)≤8 by decide+kernel) (Nat.le_add_right _ _)
 |i+1=>by
  have h:=Zt8 hL hn i
  have:=Zn3 hL i n
  have:=ZC (allM L n i) (rowM L i n)
  show qs (allM L n i+rowM L i n)≤_
  omega
theorem ZoS {L:List (List RV)} (hL:∀ q,q∈L→q.length≤1048576∧∀ x,x∈q→x.z≤1048576) {n i k:Nat} (hn:n≤3) (hi:i≤60) (hk:k≤3):qs (meaF L n i k)≤383779748:=by
 have:=Zt8 hL hn i
 have:=Zn3 hL i k
 have:=ZC (allM L n i) (rowM L i k)
 unfold meaF
 have h1:i*6291471≤60*6291471:=Nat.mul_le_mul_right _ hi
 have h2:k*2097154≤3*2097154:=Nat.mul_le_mul_right _ hk
 omega
def rAt (l:List Rat) (i:Nat):Rat:=(l[i]?).getD 0
theorem Zh0 {l:List Rat} {i:Nat} {x:Rat} (h:l[i]? =some x):rAt l i=x:=by simp [rAt,h]
def btw (P Q R:Nat→Rat) (n:Nat):Prop:=∀ i,i< n→(∀ k,k< n→(Q i - P i)*(R k - P k)=(Q k - P k)*(R i - P i))∧¬ Q i< minQ (P i) (R i)∧¬ maxQ (P i) (R i)< Q i
def ratio (P Q R:Nat→Rat) (i:Nat):Rat:=(Q i - P i) / (R i - P i)
def onS (P Q R:Nat→Rat) (i:Nat) (p:Option Rat):Prop:=
 (∀ j,j< i→R j=P j→Q j=P j)∧(∀ j,j< i→R j≠P j→0≤ratio P Q R j∧ratio P Q R j≤1∧p=some (ratio P Q R j))∧∀ x,p=some x→∃ j,j< i∧R j≠P j∧x=ratio P Q R j
section
variable {P Q R : Nat → Rat} {i n : Nat} {p : Option Rat}
theorem ZxI:onS P Q R 0 none:=⟨fun j h=>by omega,fun j h=>by omega,fun x h=>by simp at h⟩
theorem ZtB (h:onS P Q R i p) (e:R i=P i) (f:Q i=P i):onS P Q R (i+1) p:=by
 obtain⟨h1,h2,h3⟩:=h
 refine⟨fun j hj g=> ?_,fun j hj g=> ?_,fun x hx=> ?_⟩
 ·by_cases k:j=i
  ·rw [k];exact f
  ·exact h1 j (by omega) g
 ·by_cases k:j=i
  ·rw [k] at g;exact absurd e g
  ·exact h2 j (by omega) g
 ·obtain⟨j,g1,g2⟩:=h3 x hx
  exact⟨j,by omega,g2⟩
theorem ZtA (h:onS P Q R i p) (e:R i≠P i) {x:Rat} (hx:x=ratio P Q R i) (f:0≤x) (g:x≤1) (hp:p=none∨p=some x):onS P Q R (i+1) (some x):=by
 obtain⟨h1,h2,h3⟩:=h
 refine⟨fun j hj g=> ?_,fun j hj g'=> ?_,fun y hy=> ?_⟩
 ·by_cases k:j=i
  ·rw [k] at g;exact absurd g e
  ·exact h1 j (by omega) g
 ·by_cases k:j=i
  ·rw [k,← hx];exact⟨f,g,rfl⟩
  ·obtain⟨k1,k2,k3⟩:=h2 j (by omega) g'
   refine⟨k1,k2,?_⟩
   rcases hp with hp|hp
   ·rw [hp] at k3;simp at k3
   ·rw [← hp];exact k3
 ·exact⟨i,by omega,e,by rw [← hx];exact(Option.some.inj hy).symm⟩
theorem Zb6 (e:R i≠P i):Q i - P i=ratio P Q R i*(R i - P i):=by
 have hd:R i - P i≠0:=fun h=>e (by grind)
 exact(Rat.div_mul_cancel hd).symm
theorem ZkK (e:R i≠P i):(0≤ratio P Q R i∧ratio P Q R i≤1)↔(¬ Q i< minQ (P i) (R i)∧¬ maxQ (P i) (R i)< Q i):=by
 have hm:=Zb6 (Q:=Q) e
 generalize ratio P Q R i=x at hm
 have hq:Q i=P i+x*(R i - P i):=by grind
 unfold minQ maxQ
 rcases Rat.le_total (a:=P i) (b:=R i) with h|h
 ·have hd:0< R i - P i:=by grind
  rw [if_pos h]
  by_cases h':R i≤P i
  ·exact absurd (Rat.le_antisymm h' h) e
  ·rw [if_neg h']
   constructor
   ·rintro⟨h1,h2⟩
    have k1:=Rat.mul_nonneg h1 (Rat.le_of_lt hd)
    have k2:=Rat.mul_nonneg (show 0≤1 - x by grind) (Rat.le_of_lt hd)
    constructor
    ·intro k;grind
    ·intro k;grind
   ·rintro⟨h1,h2⟩
    constructor
    ·rcases Rat.le_total (a:=0) (b:=x) with g|g
     ·exact g
     ·by_cases z:x=0
      ·rw [z];exact Rat.le_refl
      ·have:=Rat.mul_pos (show 0< -x by grind) hd
       exact absurd (show Q i< P i by grind) h1
    ·rcases Rat.le_total (a:=x) (b:=1) with g|g
     ·exact g
     ·by_cases z:x=1
      ·rw [z];exact Rat.le_refl
      ·have:=Rat.mul_pos (show 0< x - 1 by grind) hd
       exact absurd (show R i< Q i by grind) h2
 ·have hd:0< P i - R i:=by grind
  rw [if_pos h]
  by_cases h':P i≤R i
  ·exact absurd (Rat.le_antisymm h h') e
  ·rw [if_neg h']
   constructor
   ·rintro⟨h1,h2⟩
    have k1:=Rat.mul_nonneg h1 (Rat.le_of_lt hd)
    have k2:=Rat.mul_nonneg (show 0≤1 - x by grind) (Rat.le_of_lt hd)
    constructor
    ·intro k;grind
    ·intro k;grind
   ·rintro⟨h1,h2⟩
    constructor
    ·rcases Rat.le_total (a:=0) (b:=x) with g|g
     ·exact g
     ·by_cases z:x=0
      ·rw [z];exact Rat.le_refl
      ·have:=Rat.mul_pos (show 0< -x by grind) hd
       exact absurd (show P i< Q i by grind) h2
    ·rcases Rat.le_total (a:=x) (b:=1) with g|g
     ·exact g
     ·by_cases z:x=1
      ·rw [z];exact Rat.le_refl
      ·have:=Rat.mul_pos (show 0< x - 1 by grind) hd
       exact absurd (show Q i< R i by grind) h1
theorem Zwj (h:onS P Q R n p):btw P Q R n:=by
 obtain⟨h1,h2,_⟩:=h
 intro i hi
 by_cases e:R i=P i
 ·have f:=h1 i hi e
  refine⟨fun k hk=>by rw [e,f];grind,?_,?_⟩
  ·rw [e,f];unfold minQ;rw [if_pos Rat.le_refl];exact Rat.lt_irrefl
  ·rw [e,f];unfold maxQ;rw [if_pos Rat.le_refl];exact Rat.lt_irrefl
 ·obtain⟨k1,k2,k3⟩:=h2 i hi e
  refine⟨fun k hk=> ?_,(ZkK e).1 ⟨k1,k2⟩⟩
  by_cases g:R k=P k
  ·have f:=h1 k hk g
   rw [g,f];grind
  ·obtain⟨_,_,l3⟩:=h2 k hk g
   have hr:ratio P Q R k=ratio P Q R i:=Option.some.inj (l3.symm.trans k3)
   rw [Zb6 (Q:=Q) e,Zb6 (Q:=Q) g,hr]
   grind
theorem Ztz (hi:i< n) (e:R i=P i) (f:Q i≠P i):¬ btw P Q R n:=fun h=>by
 obtain⟨_,h1,h2⟩:=h i hi
 rw [e] at h1 h2
 unfold minQ at h1
 unfold maxQ at h2
 rw [if_pos Rat.le_refl] at h1 h2
 exact f (by grind)
theorem ZkU (hi:i< n) (e:R i≠P i) {x:Rat} (hx:x=ratio P Q R i) (f:x< 0∨1< x):¬ btw P Q R n:=fun h=>by
 obtain⟨h1,h2⟩:=(ZkK e).2 (h i hi).2
 rw [← hx] at h1 h2
 rcases f with f|f<;>grind
theorem Zwi (hs:onS P Q R i p) (hi:i< n) (e:R i≠P i) {x y:Rat} (hx:x=ratio P Q R i) (hp:p=some y) (f:y≠x):¬ btw P Q R n:=fun h=>by
 obtain⟨j,hj,g,hy⟩:=hs.2.2 y hp
 have hc:=(h i hi).1 j (by omega)
 rw [Zb6 (Q:=Q) e,Zb6 (Q:=Q) g,← hx,← hy] at hc
 have d1:R i - P i≠0:=fun h=>e (by grind)
 have d2:R j - P j≠0:=fun h=>g (by grind)
 have hz:(x - y)*((R i - P i)*(R j - P j))=0:=by grind
 rcases Rat.mul_eq_zero.1 hz with k|k
 ·exact f (by grind)
 ·rcases Rat.mul_eq_zero.1 k with k|k
  ·exact d1 k
  ·exact d2 k
def btwI (P Q R:Nat→Rat) (n i:Nat):Prop:=∀ j,j< i→(∀ k,k< n→(Q j - P j)*(R k - P k)=(Q k - P k)*(R j - P j))∧¬ Q j< minQ (P j) (R j)∧¬ maxQ (P j) (R j)< Q j
def btwK (P Q R:Nat→Rat) (i k:Nat):Prop:=∀ m,m< k→(Q i - P i)*(R m - P m)=(Q m - P m)*(R i - P i)
theorem Zxn:btwI P Q R n 0:=fun j h=>by omega
theorem Zxl:btwK P Q R i 0:=fun j h=>by omega
theorem Zxk {k:Nat} (h:btwK P Q R i k) (e:(Q i - P i)*(R k - P k)=(Q k - P k)*(R i - P i)):btwK P Q R i (k+1):=fun m hm=>by
 by_cases g:m=k
 ·rw [g];exact e
 ·exact h m (by omega)
theorem Zxm (h:btwI P Q R n i) (g:btwK P Q R i n) (h1:¬ Q i< minQ (P i) (R i)) (h2:¬ maxQ (P i) (R i)< Q i):btwI P Q R n (i+1):=fun j hj=>by
 by_cases e:j=i
 ·rw [e];exact⟨g,h1,h2⟩
 ·exact h j (by omega)
theorem Zvx {k:Nat} (hi:i< n) (hk:k< n) (e:¬ (Q i - P i)*(R k - P k)=(Q k - P k)*(R i - P i)):¬ btw P Q R n:=fun h=>e ((h i hi).1 k hk)
theorem Zvw (hi:i< n) (e:Q i< minQ (P i) (R i)):¬ btw P Q R n:=fun h=>(h i hi).2.1 e
theorem Zvv (hi:i< n) (e:maxQ (P i) (R i)< Q i):¬ btw P Q R n:=fun h=>(h i hi).2.2 e
end
open Classical in
noncomputable def btwB (p:List Rat) (q r:List RV):Bool:=decide (btw (rAt p) (qAt q) (qAt r) p.length)
open Classical in
theorem Zt7 {p:List Rat} {q r:List RV} (h:btw (rAt p) (qAt q) (qAt r) p.length):btwB p q r=true:=by unfold btwB;exact decide_eq_true h
open Classical in
theorem ZcK {p:List Rat} {q r:List RV} (h:¬ btw (rAt p) (qAt q) (qAt r) p.length):btwB p q r=false:=by unfold btwB;exact decide_eq_false h
noncomputable def barI (L:List (List RV)):Nat→List Nat
 |0=> []
 |i+1=>bif i==0||(!(i+1==L.length)&&btwB (gdL (wAt L (((0 :: barI L i).getLast?).getD 0))) (wAt L i) (wAt L (i+1))) then barI L i else barI L i++ [i]
theorem Zql (L:List (List RV)):∀ i,(barI L i).length≤i - 1
 |0=>Nat.le_refl _
 |i+1=>by
  have h:=Zql L i
  unfold barI
  cases e:(i==0||(!(i+1==L.length)&&btwB (gdL (wAt L (((0 :: barI L i).getLast?).getD 0))) (wAt L i) (wAt L (i+1)))) with
  |true=>simp only [cond_true];omega
  |false=>
   simp only [cond_false,List.length_append,List.length_singleton]
   have:i≠0:=fun g=>by subst g;simp at e
   omega
end Go.Proofs.YtpfemjpgbpnpkaaGreatDoor.eng
namespace Go.Proofs.YtpfemjpgbpnpkaaGreatDoor.eng
open Go.RowKit num mem seg q held ratA ratB ratC ratD ratE vars ratF trq
section
variable {K : AV → Prop}
open Classical in
noncomputable def mesV (A:ArmV) (L:List (List RV)):RV:=if chkE A L=0 then cn (meaF L A.links.length L.length 0) else z0
theorem ZjD {A:ArmV} {L:List (List RV)} (h:chkE A L=0):mesV A L=cn (meaF L A.links.length L.length 0):=if_pos h
theorem ZoR {A:ArmV} {L:List (List RV)} (h:¬ chkE A L=0):mesV A L=z0:=if_neg h
set_option maxHeartbeats 4000000 in
theorem Zs8 (A:ArmV) (L:List (List RV)) (hA:A.ok) (hL:L.length≤1048576∧∀ q,q∈L→q.length≤1048576∧∀ x,x∈q→x.z≤1048576):Spec Tryz.prog Tab 42 [.val (.agg [.d (.v (.string A.name)),.d (.v (.bool A.bx.s)),.d (.v (.string A.bx.a)),.d (.v (.string A.bx.d)),.d (.v (.bool A.by'.s)),.d (.v (.string A.by'.a)),.d (.v (.string A.by'.d)),.d (.v (.bool (A.bh))),.d (.v (.bool A.bt.s)),.d (.v (.string A.bt.a)),.d (.v (.string A.bt.d)),.d (.list (List.map lk A.links))]),.val (.one (.d (.list (List.map rdrs L))))] (.tup [.agg [.d (.v (.bool (mesV A L).s)),.d (.v (.string (mesV A L).a)),.d (.v (.string (mesV A L).d))],.one (.d (.v (.int .i64 (chkE A L))))]):=by
 have hA2:=hA
 have hLL:(List.map rdrs L).length=L.length:=List.length_map ..
 have hL1:=hL.1
 have hL2:=hL.2
 refine Za Tryz.func42 rfl rfl Tryz.ntmps42 rfl (by kernel_rfl) rfl rfl ?_
 refine ZtR (A:=A) (L:=L) hA2 hL fun n12 hk_12_1=> ?_
 refine⟨fun e1=> ?_,fun e1=> ?_⟩
 ·have f14:n12≠0:=Zv e1
  refine Eq.trans (b:= .tup [.agg [.d (.v (.bool z0.s)),.d (.v (.string z0.a)),.d (.v (.string z0.d))],.one (.d (.v (.int .i64 (n12))))]) ?_ rfl
  have hno:¬ chkE A L=0:=by rw [← hk_12_1];exact f14
  rw [ZoR hno,← hk_12_1]
  all_goals rfl
 ·have f14:¬ (n12≠0):=fun hh=>hh (Zw e1)
  have hc:chkE A L=0:=by rw [← hk_12_1];exact Classical.not_not.1 f14
  have hb:=(Zd7 hc).1
  have hA0:=(ZaE hb).1
  have hn0:=(ZaE hb).2.1
  have hn60:=(ZaE hb).2.2
  have hn3:=(ZE hA0).1
  obtain⟨n,hn⟩:∃ n,A.links.length=n:=⟨_,rfl⟩
  rw [hn] at hn3
  have hln:∀ (i:Nat) (x:List RV),L[i]? =some x→x.length=n:=fun i x hx=>by
   have h1:=(Zd7 hc).2 i (List.getElem?_eq_some_iff.1 hx).1
   rw [ZY hx] at h1
   have:=(ZI.1 h1).2
   omega
  refine k_of (0) (by omega) (by omega) fun q17 h17 z17=> ?_
  simp only [cn_z] at z17
  have e17:q17=meaF L n 1 0:=by rw [h17,Zwp];rfl
  refine⟨Nat,fun i=> [(1,.val (.one (.d (.list (List.map rdrs L))))),(4,.val (.one (.ptr 4 0))),(7,.val (.one (.ptr 7 0))),(8,int (i:Int))],
   fun i=> [(4,.var 23 [.d (.v (.bool z0.s)),.d (.v (.string z0.a)),.d (.v (.string z0.d))]),(7,.var 23 [.d (.v (.bool (cn (meaF L n i 0)).s)),.d (.v (.string (cn (meaF L n i 0)).a)),.d (.v (.string (cn (meaF L n i 0)).d))])],fun i=>1≤i∧i≤L.length,fun i=>L.length - i,1,?_,⟨Nat.le_refl _,by omega⟩,fun i hs=> ?_⟩
  ·constructor<;>(repeat' (first|exact rfl|exact True.intro|exact⟨_,_,rfl⟩|exact(by decide)|apply And.intro))
   all_goals first
    |exact congrArg (fun q:Rat=>D.v (.bool (cn q).s)) e17
    |exact congrArg (fun q:Rat=>D.v (.bool (cn q).s)) e17.symm
    |exact congrArg (fun q:Rat=>D.v (.string (cn q).a)) e17
    |exact congrArg (fun q:Rat=>D.v (.string (cn q).a)) e17.symm
    |exact congrArg (fun q:Rat=>D.v (.string (cn q).d)) e17
    |exact congrArg (fun q:Rat=>D.v (.string (cn q).d)) e17.symm
    |exact congrArg (fun n:Int=>D.v (.int .i64 n)) (by omega)
    |(simp;done)
  have g1:=hs.1
  have g2:=hs.2
  refine⟨fun e2=> ?_,fun e2=> ?_⟩
  ·have f21:(i:Int)< ((List.map rdrs L).length:Int):=of_decide_eq_true e2
   refine Zc (l:=L) (i:=i) (by first|omega|exact Nat.mod_lt _ (by omega)) fun x26 hx26=> ?_
   have hwx26:=ZY hx26
   have hzx26:=hL.2 x26 (List.mem_of_getElem? hx26)
   have hnx26:=hln _ _ hx26
   have hmx26:(List.map rd x26).length=n:=by rw [List.length_map,hnx26]
   refine k_ix i [D.list (List.map rd x26)] (by first|rfl|omega|(rw [wrap64 _ (by omega) (by omega)];omega)|(rw [wrap64 _ (by omega) (by omega)];split<;>omega)) (Zb hx26) rfl ?_
   refine⟨Nat,fun k=> [(1,.val (.one (.d (.list (List.map rdrs L))))),(4,.val (.one (.ptr 4 0))),(7,.val (.one (.ptr 7 0))),(8,int (i:Int)),(28,int ((List.map rd x26).length:Int)),(29,int (k:Int))],
    fun k=> [(4,.var 23 [.d (.v (.bool z0.s)),.d (.v (.string z0.a)),.d (.v (.string z0.d))]),(7,.var 23 [.d (.v (.bool (cn (meaF L n i k)).s)),.d (.v (.string (cn (meaF L n i k)).a)),.d (.v (.string (cn (meaF L n i k)).d))])],fun k=>k≤n,fun k=>n - k,0,?_,Nat.zero_le _,fun k hs=> ?_⟩
   ·constructor<;>(repeat' (first|exact rfl|exact True.intro|exact⟨_,_,rfl⟩|exact(by decide)|apply And.intro))
    all_goals first|exact congrArg (fun n:Int=>D.v (.int .i64 n)) (by omega)|exact congrArg (fun n:Int=>D.v (.int .i64 n)) (by rw [wrap64 _ (by omega) (by omega)];omega)|(simp;done)
   have hmz:=ZoS hL2 hn3 (i:=i) (k:=k) (by omega) (by omega)
   refine⟨fun e3=> ?_,fun e3=> ?_⟩
   ·have f30:(k:Int)< ((List.map rd x26).length:Int):=of_decide_eq_true e3
    refine k_ix i [D.list (List.map rd x26)] (by first|rfl|omega|(rw [wrap64 _ (by omega) (by omega)];omega)|(rw [wrap64 _ (by omega) (by omega)];split<;>omega)) (Zb hx26) rfl ?_
    refine Zc (l:=x26) (i:=k) (by first|omega|exact Nat.mod_lt _ (by omega)) fun x38 hx38=> ?_
    have hzx38:=hzx26.2 x38 (List.mem_of_getElem? hx38)
    have hqx38:=ZR hx38
    refine k_ix k [D.v (.bool x38.s),D.v (.string x38.a),D.v (.string x38.d)] (by first|rfl|omega|(rw [wrap64 _ (by omega) (by omega)];omega)|(rw [wrap64 _ (by omega) (by omega)];split<;>omega)) (Zb hx38) rfl ?_
    refine Zc (l:=L) (i:=(i - 1)) (by first|omega|exact Nat.mod_lt _ (by omega)) fun x43 hx43=> ?_
    have hwx43:=ZY hx43
    have hzx43:=hL.2 x43 (List.mem_of_getElem? hx43)
    have hnx43:=hln _ _ hx43
    have hmx43:(List.map rd x43).length=n:=by rw [List.length_map,hnx43]
    refine k_ix (i - 1) [D.list (List.map rd x43)] (by first|rfl|omega|(rw [wrap64 _ (by omega) (by omega)];omega)|(rw [wrap64 _ (by omega) (by omega)];split<;>omega)) (Zb hx43) rfl ?_
    refine Zc (l:=x43) (i:=k) (by first|omega|exact Nat.mod_lt _ (by omega)) fun x46 hx46=> ?_
    have hzx46:=hzx43.2 x46 (List.mem_of_getElem? hx46)
    have hqx46:=ZR hx46
    refine k_ix k [D.v (.bool x46.s),D.v (.string x46.a),D.v (.string x46.d)] (by first|rfl|omega|(rw [wrap64 _ (by omega) (by omega)];omega)|(rw [wrap64 _ (by omega) (by omega)];split<;>omega)) (Zb hx46) rfl ?_
    refine ZcW (x:=x38) (y:=x46) (by omega) (by omega) fun q48 h48 z48=> ?_
    simp only [cn_z] at z48
    refine ZtU (x:=cn q48) (by simp only [cn_z];omega) (fun q49 hk_49_1 hk_49_2=> ?_)
    try simp only [cn_q] at hk_49_1
    simp only [cn_z] at hk_49_2
    refine ZcC (x:=cn (meaF L n i k)) (y:=cn q49) (by simp only [cn_z];omega) (by simp only [cn_z];omega) fun q50 h50 z50=> ?_
    simp only [cn_z] at z50
    simp only [cn_q] at h50
    refine⟨by kernel_rfl,?_⟩
    have e50:q50=meaF L n i (k+1):=by
     rw [ZtF,h50,hk_49_1,h48,← hqx38,← hqx46,← hwx26,← hwx43];rfl
    refine⟨(k+1),by omega,by simp only;omega,?_⟩
    constructor<;>(repeat' (first|exact rfl|exact True.intro|apply And.intro))
    all_goals first
     |exact congrArg (fun q:Rat=>D.v (.bool (cn q).s)) e50
     |exact congrArg (fun q:Rat=>D.v (.bool (cn q).s)) e50.symm
     |exact congrArg (fun q:Rat=>D.v (.string (cn q).a)) e50
     |exact congrArg (fun q:Rat=>D.v (.string (cn q).a)) e50.symm
     |exact congrArg (fun q:Rat=>D.v (.string (cn q).d)) e50
     |exact congrArg (fun q:Rat=>D.v (.string (cn q).d)) e50.symm
     |exact congrArg (fun n:Int=>D.v (.int .i64 n)) (by rw [wrap64 _ (by omega) (by omega)];omega)
     |exact congrArg (fun n:Int=>D.v (.int .i64 n)) (by omega)
   ·have f30:¬ ((k:Int)< ((List.map rd x26).length:Int)):=of_decide_eq_false e3
    have ei:meaF L n i k=meaF L n (i+1) 0:=by rw [ZtG,show k=n by omega]
    refine⟨i+1,⟨by omega,by omega⟩,by simp only;omega,?_⟩
    constructor<;>(repeat' (first|exact rfl|exact True.intro|apply And.intro))
    all_goals first
     |exact congrArg (fun q:Rat=>D.v (.bool (cn q).s)) ei
     |exact congrArg (fun q:Rat=>D.v (.bool (cn q).s)) ei.symm
     |exact congrArg (fun q:Rat=>D.v (.string (cn q).a)) ei
     |exact congrArg (fun q:Rat=>D.v (.string (cn q).a)) ei.symm
     |exact congrArg (fun q:Rat=>D.v (.string (cn q).d)) ei
     |exact congrArg (fun q:Rat=>D.v (.string (cn q).d)) ei.symm
     |exact congrArg (fun n:Int=>D.v (.int .i64 n)) (by rw [wrap64 _ (by omega) (by omega)];omega)
     |exact congrArg (fun n:Int=>D.v (.int .i64 n)) (by omega)
  ·have f21:¬ ((i:Int)< ((List.map rdrs L).length:Int)):=of_decide_eq_false e2
   refine Eq.trans (b:= .tup [.agg [.d (.v (.bool (cn (meaF L n i 0)).s)),.d (.v (.string (cn (meaF L n i 0)).a)),.d (.v (.string (cn (meaF L n i 0)).d))],.one (.d (.v (.int .i64 (0))))]) ?_ rfl
   have hi:i=L.length:=by omega
   rw [ZjD hc,hc,hn,← hi]
   all_goals rfl
theorem ZwU {A:ArmV} {L:List (List RV)} (hA:A.ok) (hL:L.length≤1048576∧∀ q,q∈L→q.length≤1048576∧∀ x,x∈q→x.z≤1048576) (k:∀ n,n=chkE A L→K (.tup [.agg [.d (.v (.bool (mesV A L).s)),.d (.v (.string (mesV A L).a)),.d (.v (.string (mesV A L).d))],.one (.d (.v (.int .i64 (n))))])):Ask 42 [.val (.agg [.d (.v (.string A.name)),.d (.v (.bool A.bx.s)),.d (.v (.string A.bx.a)),.d (.v (.string A.bx.d)),.d (.v (.bool A.by'.s)),.d (.v (.string A.by'.a)),.d (.v (.string A.by'.d)),.d (.v (.bool (A.bh))),.d (.v (.bool A.bt.s)),.d (.v (.string A.bt.a)),.d (.v (.string A.bt.d)),.d (.list (List.map lk A.links))]),.val (.one (.d (.list (List.map rdrs L))))] K:=use (Zs8 A L hA hL) rfl (k _ rfl)
set_option maxHeartbeats 4000000 in
theorem ZsV (p:List Rat) (q r:List RV) (hp:∀ x,x∈p→qs x≤2097152) (hq:∀ x,x∈q→x.z≤1048576) (hr:∀ x,x∈r→x.z≤1048576) (hlq:q.length=p.length) (hlr:r.length=p.length) (hn:p.length≤1048576):Spec Tryz.prog Tab 145 [.val (.one (.d (.list (List.map rdc p)))),.val (.one (.d (.list (List.map rd q)))),.val (.one (.d (.list (List.map rd r))))] (bool (btwB p q r)):=by
 have hLp:(List.map rdc p).length=p.length:=List.length_map ..
 have hLq:(List.map rd q).length=q.length:=List.length_map ..
 have hLr:(List.map rd r).length=r.length:=List.length_map ..
 refine Za Tryz.func145 rfl rfl Tryz.ntmps145 rfl (by kernel_rfl) rfl rfl ?_
 refine⟨Nat,fun i=> [(0,.val (.one (.d (.list (List.map rdc p))))),(1,.val (.one (.d (.list (List.map rd q))))),(2,.val (.one (.d (.list (List.map rd r))))),(12,int ((List.map rdc p).length:Int)),(13,int (i:Int))],
  fun i=> [],fun i=>i≤p.length∧btwI (rAt p) (qAt q) (qAt r) p.length i,fun i=>p.length - i,0,?_,⟨Nat.zero_le _,Zxn⟩,fun i hs=> ?_⟩
 ·constructor<;>(repeat' (first|exact rfl|exact True.intro|exact⟨_,_,rfl⟩|exact(by decide)|apply And.intro))
  all_goals first|exact congrArg (fun n:Int=>D.v (.int .i64 n)) (by omega)|exact congrArg (fun n:Int=>D.v (.int .i64 n)) (by rw [wrap64 _ (by omega) (by omega)];omega)|(simp;done)
 have g1:=hs.1
 have g2:=hs.2
 refine⟨fun e1=> ?_,fun e1=> ?_⟩
 ·have f14:(i:Int)< ((List.map rdc p).length:Int):=of_decide_eq_true e1
  refine⟨Nat,fun k=> [(0,.val (.one (.d (.list (List.map rdc p))))),(1,.val (.one (.d (.list (List.map rd q))))),(2,.val (.one (.d (.list (List.map rd r))))),(7,int (i:Int)),(12,int ((List.map rdc p).length:Int)),(13,int (i:Int)),(17,int ((List.map rdc p).length:Int)),(18,int (k:Int))],
   fun k=> [],fun k=>k≤p.length∧btwK (rAt p) (qAt q) (qAt r) i k,fun k=>p.length - k,0,?_,⟨Nat.zero_le _,Zxl⟩,fun k hs=> ?_⟩
  ·constructor<;>(repeat' (first|exact rfl|exact True.intro|exact⟨_,_,rfl⟩|exact(by decide)|apply And.intro))
   all_goals first|exact congrArg (fun n:Int=>D.v (.int .i64 n)) (by omega)|exact congrArg (fun n:Int=>D.v (.int .i64 n)) (by rw [wrap64 _ (by omega) (by omega)];omega)|(simp;done)
  have g3:=hs.1
  have g4:=hs.2
  refine⟨fun e2=> ?_,fun e2=> ?_⟩
  ·have f19:(k:Int)< ((List.map rdc p).length:Int):=of_decide_eq_true e2
   refine Zc (l:=q) (i:=i) (by first|omega|exact Nat.mod_lt _ (by omega)) fun x23 hx23=> ?_
   have hzx23:=hq x23 (List.mem_of_getElem? hx23)
   have hqx23:=ZR hx23
   refine k_ix i [D.v (.bool x23.s),D.v (.string x23.a),D.v (.string x23.d)] (by first|rfl|omega|(rw [wrap64 _ (by omega) (by omega)];omega)|(rw [wrap64 _ (by omega) (by omega)];split<;>omega)) (Zb hx23) rfl ?_
   refine Zc (l:=p) (i:=i) (by first|omega|exact Nat.mod_lt _ (by omega)) fun x27 hx27=> ?_
   have hzx27:=hp x27 (List.mem_of_getElem? hx27)
   have hqx27:=Zh0 hx27
   refine k_ix i [D.v (.bool (cn x27).s),D.v (.string (cn x27).a),D.v (.string (cn x27).d)] (by first|rfl|omega|(rw [wrap64 _ (by omega) (by omega)];omega)|(rw [wrap64 _ (by omega) (by omega)];split<;>omega)) (Zb hx27) rfl ?_
   refine ZcW (x:=x23) (y:=cn x27) (by omega) (by simp only [cn_z];omega) fun q29 h29 z29=> ?_
   simp only [cn_z] at z29
   simp only [cn_q] at h29
   refine Zc (l:=r) (i:=k) (by first|omega|exact Nat.mod_lt _ (by omega)) fun x32 hx32=> ?_
   have hzx32:=hr x32 (List.mem_of_getElem? hx32)
   have hqx32:=ZR hx32
   refine k_ix k [D.v (.bool x32.s),D.v (.string x32.a),D.v (.string x32.d)] (by first|rfl|omega|(rw [wrap64 _ (by omega) (by omega)];omega)|(rw [wrap64 _ (by omega) (by omega)];split<;>omega)) (Zb hx32) rfl ?_
   refine Zc (l:=p) (i:=k) (by first|omega|exact Nat.mod_lt _ (by omega)) fun x36 hx36=> ?_
   have hzx36:=hp x36 (List.mem_of_getElem? hx36)
   have hqx36:=Zh0 hx36
   refine k_ix k [D.v (.bool (cn x36).s),D.v (.string (cn x36).a),D.v (.string (cn x36).d)] (by first|rfl|omega|(rw [wrap64 _ (by omega) (by omega)];omega)|(rw [wrap64 _ (by omega) (by omega)];split<;>omega)) (Zb hx36) rfl ?_
   refine ZcW (x:=x32) (y:=cn x36) (by omega) (by simp only [cn_z];omega) fun q38 h38 z38=> ?_
   simp only [cn_z] at z38
   simp only [cn_q] at h38
   refine Zbb (x:=cn q29) (y:=cn q38) (by simp only [cn_z];omega) (by simp only [cn_z];omega) fun q39 h39 z39=> ?_
   simp only [cn_z] at z39
   simp only [cn_q] at h39
   refine⟨by kernel_rfl,?_⟩
   refine Zc (l:=q) (i:=k) (by first|omega|exact Nat.mod_lt _ (by omega)) fun x42 hx42=> ?_
   have hzx42:=hq x42 (List.mem_of_getElem? hx42)
   have hqx42:=ZR hx42
   refine k_ix k [D.v (.bool x42.s),D.v (.string x42.a),D.v (.string x42.d)] (by first|rfl|omega|(rw [wrap64 _ (by omega) (by omega)];omega)|(rw [wrap64 _ (by omega) (by omega)];split<;>omega)) (Zb hx42) rfl ?_
   refine k_ix k [D.v (.bool (cn x36).s),D.v (.string (cn x36).a),D.v (.string (cn x36).d)] (by first|rfl|omega|(rw [wrap64 _ (by omega) (by omega)];omega)|(rw [wrap64 _ (by omega) (by omega)];split<;>omega)) (Zb hx36) rfl ?_
   refine ZcW (x:=x42) (y:=cn x36) (by omega) (by simp only [cn_z];omega) fun q48 h48 z48=> ?_
   simp only [cn_z] at z48
   simp only [cn_q] at h48
   refine Zc (l:=r) (i:=i) (by first|omega|exact Nat.mod_lt _ (by omega)) fun x51 hx51=> ?_
   have hzx51:=hr x51 (List.mem_of_getElem? hx51)
   have hqx51:=ZR hx51
   refine k_ix i [D.v (.bool x51.s),D.v (.string x51.a),D.v (.string x51.d)] (by first|rfl|omega|(rw [wrap64 _ (by omega) (by omega)];omega)|(rw [wrap64 _ (by omega) (by omega)];split<;>omega)) (Zb hx51) rfl ?_
   refine k_ix i [D.v (.bool (cn x27).s),D.v (.string (cn x27).a),D.v (.string (cn x27).d)] (by first|rfl|omega|(rw [wrap64 _ (by omega) (by omega)];omega)|(rw [wrap64 _ (by omega) (by omega)];split<;>omega)) (Zb hx27) rfl ?_
   refine ZcW (x:=x51) (y:=cn x27) (by omega) (by simp only [cn_z];omega) fun q57 h57 z57=> ?_
   simp only [cn_z] at z57
   simp only [cn_q] at h57
   refine Zbb (x:=cn q48) (y:=cn q57) (by simp only [cn_z];omega) (by simp only [cn_z];omega) fun q58 h58 z58=> ?_
   simp only [cn_z] at z58
   simp only [cn_q] at h58
   refine⟨by kernel_rfl,?_⟩
   refine Zir (x:=cn q39) (y:=cn q58) (by simp only [cn_z];omega) (by simp only [cn_z];omega) fun n61 h61=> ?_
   simp only [cn_q] at h61
   refine⟨fun e3=> ?_,fun e3=> ?_⟩
   ·have f62:¬ q39=q58:=fun hh=>Zv e3 ((ZsL h61).2 hh)
    refine Eq.trans (b:=bool false) ?_ rfl
    rw [ZcK (Zvx (i:=i) (k:=k) (by omega) (by omega) (by rw [hqx23,hqx27,hqx32,hqx36,hqx42,hqx51,← h29,← h38,← h48,← h57,← h39,← h58];exact f62))]
    all_goals rfl
   ·have f62:¬ (¬ q39=q58):=fun hh=>hh ((ZsL h61).1 (Zw e3))
    refine⟨(k+1),⟨by omega,Zxk g4 (by rw [hqx23,hqx27,hqx32,hqx36,hqx42,hqx51,← h29,← h38,← h48,← h57,← h39,← h58];exact Classical.not_not.1 f62)⟩,by simp only;omega,?_⟩
    constructor<;>(repeat' (first|exact rfl|exact True.intro|apply And.intro))
    all_goals first
     |exact congrArg (fun n:Int=>D.v (.int .i64 n)) (by rw [wrap64 _ (by omega) (by omega)];omega)
     |exact congrArg (fun n:Int=>D.v (.int .i64 n)) (by omega)
  ·have f19:¬ ((k:Int)< ((List.map rdc p).length:Int)):=of_decide_eq_false e2
   refine Zc (l:=q) (i:=i) (by first|omega|exact Nat.mod_lt _ (by omega)) fun x66 hx66=> ?_
   have hzx66:=hq x66 (List.mem_of_getElem? hx66)
   have hqx66:=ZR hx66
   refine k_ix i [D.v (.bool x66.s),D.v (.string x66.a),D.v (.string x66.d)] (by first|rfl|omega|(rw [wrap64 _ (by omega) (by omega)];omega)|(rw [wrap64 _ (by omega) (by omega)];split<;>omega)) (Zb hx66) rfl ?_
   refine Zc (l:=p) (i:=i) (by first|omega|exact Nat.mod_lt _ (by omega)) fun x70 hx70=> ?_
   have hzx70:=hp x70 (List.mem_of_getElem? hx70)
   have hqx70:=Zh0 hx70
   refine k_ix i [D.v (.bool (cn x70).s),D.v (.string (cn x70).a),D.v (.string (cn x70).d)] (by first|rfl|omega|(rw [wrap64 _ (by omega) (by omega)];omega)|(rw [wrap64 _ (by omega) (by omega)];split<;>omega)) (Zb hx70) rfl ?_
   refine Zc (l:=r) (i:=i) (by first|omega|exact Nat.mod_lt _ (by omega)) fun x74 hx74=> ?_
   have hzx74:=hr x74 (List.mem_of_getElem? hx74)
   have hqx74:=ZR hx74
   refine k_ix i [D.v (.bool x74.s),D.v (.string x74.a),D.v (.string x74.d)] (by first|rfl|omega|(rw [wrap64 _ (by omega) (by omega)];omega)|(rw [wrap64 _ (by omega) (by omega)];split<;>omega)) (Zb hx74) rfl ?_
   refine ZuV (x:=cn x70) (y:=x74) (by simp only [cn_z];omega) (by omega) fun q76 h76 z76=> ?_
   simp only [cn_z] at z76
   simp only [cn_q] at h76
   refine Zir (x:=x66) (y:=cn q76) (by omega) (by simp only [cn_z];omega) fun n77 h77=> ?_
   simp only [cn_q] at h77
   refine fork (fun e4=> ?_) (fun e4=> ?_)
   ·have f79:x66.q< q76:=(ZsK h77).1 (of_decide_eq_true e4)
    refine⟨by kernel_rfl,?_⟩
    refine⟨fun _=> ?_,fun e=>absurd e (by decide)⟩
    refine Eq.trans (b:=bool false) ?_ rfl
    rw [ZcK (Zvw (i:=i) (by omega) (by rw [hqx66,hqx70,hqx74,← h76];exact f79))]
    all_goals rfl
   ·have f79:¬ (x66.q< q76):=fun hh=>of_decide_eq_false e4 ((ZsK h77).2 hh)
    refine k_ix i [D.v (.bool x66.s),D.v (.string x66.a),D.v (.string x66.d)] (by first|rfl|omega|(rw [wrap64 _ (by omega) (by omega)];omega)|(rw [wrap64 _ (by omega) (by omega)];split<;>omega)) (Zb hx66) rfl ?_
    refine k_ix i [D.v (.bool (cn x70).s),D.v (.string (cn x70).a),D.v (.string (cn x70).d)] (by first|rfl|omega|(rw [wrap64 _ (by omega) (by omega)];omega)|(rw [wrap64 _ (by omega) (by omega)];split<;>omega)) (Zb hx70) rfl ?_
    refine k_ix i [D.v (.bool x74.s),D.v (.string x74.a),D.v (.string x74.d)] (by first|rfl|omega|(rw [wrap64 _ (by omega) (by omega)];omega)|(rw [wrap64 _ (by omega) (by omega)];split<;>omega)) (Zb hx74) rfl ?_
    refine ZuW (x:=cn x70) (y:=x74) (by simp only [cn_z];omega) (by omega) fun q92 h92 z92=> ?_
    simp only [cn_z] at z92
    simp only [cn_q] at h92
    refine Zir (x:=x66) (y:=cn q92) (by omega) (by simp only [cn_z];omega) fun n93 h93=> ?_
    simp only [cn_q] at h93
    refine⟨by kernel_rfl,?_⟩
    refine⟨fun e5=> ?_,fun e5=> ?_⟩
    ·have f95:q92< x66.q:=(ZmI h93).1 (of_decide_eq_true e5)
     refine Eq.trans (b:=bool false) ?_ rfl
     rw [ZcK (Zvv (i:=i) (by omega) (by rw [hqx66,hqx70,hqx74,← h92];exact f95))]
     all_goals rfl
    ·have f95:¬ (q92< x66.q):=fun hh=>of_decide_eq_false e5 ((ZmI h93).2 hh)
     refine⟨i+1,⟨by omega,Zxm g2 (by rw [← show k=p.length by omega];exact g4) (by rw [hqx66,hqx70,hqx74,← h76];exact f79) (by rw [hqx66,hqx70,hqx74,← h92];exact f95)⟩,by simp only;omega,?_⟩
     constructor<;>(repeat' (first|exact rfl|exact True.intro|apply And.intro))
     all_goals first
      |exact congrArg (fun n:Int=>D.v (.int .i64 n)) (by rw [wrap64 _ (by omega) (by omega)];omega)
      |exact congrArg (fun n:Int=>D.v (.int .i64 n)) (by omega)
 ·have f14:¬ ((i:Int)< ((List.map rdc p).length:Int)):=of_decide_eq_false e1
  refine Eq.trans (b:=bool true) ?_ rfl
  rw [Zt7 fun j hj=>g2 j (by omega)]
  all_goals rfl
theorem ZwO {p:List Rat} {q r:List RV} (hp:∀ x,x∈p→qs x≤2097152) (hq:∀ x,x∈q→x.z≤1048576) (hr:∀ x,x∈r→x.z≤1048576) (hlq:q.length=p.length) (hlr:r.length=p.length) (hn:p.length≤1048576) (k:∀ b,b=btwB p q r→K (bool b)):Ask 145 [.val (.one (.d (.list (List.map rdc p)))),.val (.one (.d (.list (List.map rd q)))),.val (.one (.d (.list (List.map rd r))))] K:=use (ZsV p q r hp hq hr hlq hlr hn) rfl (k _ rfl)
open Classical in
noncomputable def plnV (A:ArmV) (L:List (List RV)):List (List Rat):=if chkE A L=0 then rowQ L (0 :: barI L L.length) else []
theorem plnV_ok {A:ArmV} {L:List (List RV)} (h:chkE A L=0):plnV A L=rowQ L (0 :: barI L L.length):=if_pos h
theorem plnV_no {A:ArmV} {L:List (List RV)} (h:¬ chkE A L=0):plnV A L= []:=if_neg h
theorem Zbr {L:List (List RV)} {i:Nat} {I:List Nat} (hI:I=barI L i) (h1:1≤i) (h:i+1=L.length∨btwB (gdL (wAt L (((0 :: I).getLast?).getD 0))) (wAt L i) (wAt L (i+1))=false):I++ [i]=barI L (i+1):=by
 subst hI
 show _=bif _ then _ else _
 have e:(i==0||(!(i+1==L.length)&&btwB (gdL (wAt L (((0 :: barI L i).getLast?).getD 0))) (wAt L i) (wAt L (i+1))))=false:=by
  have:(i==0)=false:=by rw [beq_eq_false_iff_ne];omega
  rw [this]
  rcases h with h|h
  ·rw [h];simp
  ·rw [h];simp
 rw [e];rfl
theorem ZdN {L:List (List RV)} {i:Nat} {I:List Nat} (hI:I=barI L i) (h2:¬ i+1=L.length) (h:btwB (gdL (wAt L (((0 :: I).getLast?).getD 0))) (wAt L i) (wAt L (i+1))=true):I=barI L (i+1):=by
 subst hI
 show _=bif _ then _ else _
 have e:(i==0||(!(i+1==L.length)&&btwB (gdL (wAt L (((0 :: barI L i).getLast?).getD 0))) (wAt L i) (wAt L (i+1))))=true:=by
  have:(i+1==L.length)=false:=by rw [beq_eq_false_iff_ne];exact h2
  rw [this,h];simp
 rw [e];rfl
theorem ZhT {L:List (List RV)} {J:List Nat} {x:List Rat} (h:(rowQ L J)[(rowQ L J).length - 1]? =some x):x=gdL (wAt L ((J.getLast?).getD 0)):=by
 unfold rowQ at h
 rw [List.getElem?_map,List.length_map,← List.getLast?_eq_getElem?] at h
 cases e:J.getLast? with
 |none=>rw [e] at h;simp at h
 |some j=>rw [e] at h;exact(Option.some.inj h).symm
theorem gd_z {L:List (List RV)} (hL:∀ q,q∈L→q.length≤1048576∧∀ x,x∈q→x.z≤1048576) (i:Nat):∀ x,x∈gdL (wAt L i)→qs x≤2097152:=by
 intro x hx
 unfold wAt at hx
 cases e:L[i]? with
 |none=>rw [e] at hx;simp [gdL] at hx
 |some q=>
  rw [e] at hx
  obtain⟨y,hy,rfl⟩:=List.mem_map.1 hx
  have:=(hL q (List.mem_of_getElem? e)).2 y hy
  have:=y.z1
  omega
theorem Zkb {L:List (List RV)}:∀ {i j:Nat},j∈barI L i→j< i
 |0,j,h=>by simp [barI] at h
 |i+1,j,h=>by
  unfold barI at h
  cases e:(i==0||(!(i+1==L.length)&&btwB (gdL (wAt L (((0 :: barI L i).getLast?).getD 0))) (wAt L i) (wAt L (i+1)))) with
  |true=>
   rw [e] at h
   have:=Zkb (show j∈barI L i from h)
   omega
  |false=>
   rw [e] at h
   rcases List.mem_append.1 h with h|h
   ·have:=Zkb h
    omega
   ·have:j=i:=by simpa using h
    omega
theorem ZoY {L:List (List RV)} {i:Nat} {I:List Nat} (hI:I=barI L i) (h:1≤i):((0 :: I).getLast?).getD 0< i:=by
 have hm:((0 :: I).getLast?).getD 0∈0 :: I:=by
  rw [List.getLast?_cons,Option.getD_some]
  cases e:I.getLast? with
  |none=>simp
  |some j=>exact List.mem_cons_of_mem _ (List.mem_of_getLast? e)
 rcases List.mem_cons.1 hm with e|e
 ·omega
 ·rw [hI] at e ⊢;exact Zkb e
theorem Zhk {L:List (List RV)} {n j:Nat} (hln:∀ (i:Nat) (x:List RV),L[i]? =some x→x.length=n) (h:j< L.length):(gdL (wAt L j)).length=n:=by
 rw [Zhl,ZY (List.getElem?_eq_getElem h)]
 exact hln j _ (List.getElem?_eq_getElem h)
set_option maxHeartbeats 8000000 in
theorem Zs6 (A:ArmV) (L:List (List RV)) (hA:A.ok) (hL:L.length≤1048576∧∀ q,q∈L→q.length≤1048576∧∀ x,x∈q→x.z≤1048576):Spec Tryz.prog Tab 44 [.val (.agg [.d (.v (.string A.name)),.d (.v (.bool A.bx.s)),.d (.v (.string A.bx.a)),.d (.v (.string A.bx.d)),.d (.v (.bool A.by'.s)),.d (.v (.string A.by'.a)),.d (.v (.string A.by'.d)),.d (.v (.bool (A.bh))),.d (.v (.bool A.bt.s)),.d (.v (.string A.bt.a)),.d (.v (.string A.bt.d)),.d (.list (List.map lk A.links))]),.val (.one (.d (.list (List.map rdrs L))))] (.tup [.one (.d (.list (List.map rdcs (plnV A L)))),.one (.d (.v (.int .i64 (chkE A L))))]):=by
 have hA2:=hA
 have hLL:(List.map rdrs L).length=L.length:=List.length_map ..
 have hL1:=hL.1
 have hL2:=hL.2
 refine Za Tryz.func44 rfl rfl Tryz.ntmps44 rfl (by kernel_rfl) rfl rfl ?_
 refine ZtR (A:=A) (L:=L) hA2 hL fun n11 hk_11_1=> ?_
 refine⟨fun e1=> ?_,fun e1=> ?_⟩
 ·have f13:n11≠0:=Zv e1
  refine Eq.trans (b:= .tup [.one (.d (.list ([]))),.one (.d (.v (.int .i64 (n11))))]) ?_ rfl
  have hno:¬ chkE A L=0:=by rw [← hk_11_1];exact f13
  rw [plnV_no hno,← hk_11_1]
  all_goals rfl
 ·have f13:¬ (n11≠0):=fun hh=>hh (Zw e1)
  have hc:chkE A L=0:=by rw [← hk_11_1];exact Classical.not_not.1 f13
  have hb:=(Zd7 hc).1
  have hA0:=(ZaE hb).1
  have hn0:=(ZaE hb).2.1
  have hn60:=(ZaE hb).2.2
  have hn3:=(ZE hA0).1
  obtain⟨n,hn⟩:∃ n,A.links.length=n:=⟨_,rfl⟩
  rw [hn] at hn3
  have hln:∀ (i:Nat) (x:List RV),L[i]? =some x→x.length=n:=fun i x hx=>by
   have h1:=(Zd7 hc).2 i (List.getElem?_eq_some_iff.1 hx).1
   rw [ZY hx] at h1
   have:=(ZI.1 h1).2
   omega
  refine Zc (l:=L) (i:=0) (by first|omega|exact Nat.mod_lt _ (by omega)) fun x16 hx16=> ?_
  have hwx16:=ZY hx16
  have hzx16:=hL.2 x16 (List.mem_of_getElem? hx16)
  have hnx16:=hln _ _ hx16
  have hmx16:(List.map rd x16).length=n:=by rw [List.length_map,hnx16]
  refine k_ix 0 [D.list (List.map rd x16)] (by first|rfl|omega|(rw [wrap64 _ (by omega) (by omega)];omega)|(rw [wrap64 _ (by omega) (by omega)];split<;>omega)) (Zb hx16) rfl ?_
  refine Zfm (L:=L) (i:=0) (q:=x16) hwx16 hzx16 ?_
  refine⟨Nat×List Nat,fun (i,I)=> [(1,.val (.one (.d (.list (List.map rdrs L))))),(7,trAV 57 L I),(8,int (i:Int))],
   fun (i,I)=> []++trOb 57 L I,fun (i,I)=>1≤i∧i≤L.length∧I=barI L i∧I.length≤i,fun (i,I)=>L.length - i,(1, []),?_,⟨Nat.le_refl _,by omega,rfl,by simp⟩,fun s hs=> ?_⟩
  ·constructor<;>(repeat' (first|exact rfl|exact True.intro|exact⟨_,_,rfl⟩|exact(by decide)|apply And.intro))
   all_goals first|exact congrArg (fun n:Int=>D.v (.int .i64 n)) (by omega)|exact congrArg (fun n:Int=>D.v (.int .i64 n)) (by rw [wrap64 _ (by omega) (by omega)];omega)|(simp;done)
  obtain⟨i,I⟩:=s
  obtain⟨g1,g2,g3,g4⟩:=hs
  try simp only at g1 g2 g3 g4
  refine⟨fun e2=> ?_,fun e2=> ?_⟩
  ·have f23:(i:Int)< ((List.map rdrs L).length:Int):=of_decide_eq_true e2
   have hwl:IntKind.i64.wrap (((List.map rdrs L).length:Int) - 1)=((L.length - 1:Nat):Int):=by rw [wrap64 _ (by omega) (by omega)];omega
   have hwi:IntKind.i64.wrap ((i:Int)+1)=(i:Int)+1:=wrap64 _ (by omega) (by omega)
   rcases I with _|⟨c,r⟩
   ·simp only [List.length_nil,List.length_cons] at g4
    refine fork (fun e3=> ?_) (fun e3=> ?_)
    ·have f31:(i:Int)=IntKind.i64.wrap (((List.map rdrs L).length:Int) - 1):=ZP e3
     refine⟨by kernel_rfl,?_⟩
     refine⟨fun _=> ?_,fun e=>absurd e (by decide)⟩
     refine Zc (l:=L) (i:=i) (by first|omega|exact Nat.mod_lt _ (by omega)) fun x53 hx53=> ?_
     have hwx53:=ZY hx53
     have hzx53:=hL.2 x53 (List.mem_of_getElem? hx53)
     have hnx53:=hln _ _ hx53
     have hmx53:(List.map rd x53).length=n:=by rw [List.length_map,hnx53]
     refine k_ix i [D.list (List.map rd x53)] (by first|rfl|omega|(rw [wrap64 _ (by omega) (by omega)];omega)|(rw [wrap64 _ (by omega) (by omega)];split<;>omega)) (Zb hx53) rfl ?_
     refine Zfm (L:=L) (i:=i) (q:=x53) hwx53 hzx53 ?_
     refine⟨⟨Nat.zero_lt_succ _,row1 rfl,row1 rfl,(by show (1+1)*24≤_;omega),(by show 1+1≤_;omega)⟩,?_⟩
     have hI: [i]=barI L (i+1):=Zbr g3 (by omega) (.inl (by omega))
     refine⟨(i+1, [i]),⟨by omega,by omega,hI,by simp only [List.length_cons,List.length_append,List.length_nil] at g4 ⊢;omega⟩,by simp only;omega,?_⟩
     constructor<;>(repeat' (first|exact rfl|exact True.intro|apply And.intro))
     all_goals first
      |(simp [rowQ,rdcs];done)
      |exact congrArg (fun n:Int=>D.v (.int .i64 n)) (by rw [wrap64 _ (by omega) (by omega)];omega)
      |exact congrArg (fun n:Int=>D.v (.int .i64 n)) (by omega)
    ·have f31:¬ ((i:Int)=IntKind.i64.wrap (((List.map rdrs L).length:Int) - 1)):=ZQ e3
     refine k_ix 0 [D.list (List.map rdc (gdL (wAt L 0)))] (by first|rfl|omega|(rw [wrap64 _ (by omega) (by omega)];omega)|(rw [wrap64 _ (by omega) (by omega)];split<;>omega)) rfl rfl ?_
     refine Zc (l:=L) (i:=i) (by first|omega|exact Nat.mod_lt _ (by omega)) fun x40 hx40=> ?_
     have hwx40:=ZY hx40
     have hzx40:=hL.2 x40 (List.mem_of_getElem? hx40)
     have hnx40:=hln _ _ hx40
     have hmx40:(List.map rd x40).length=n:=by rw [List.length_map,hnx40]
     refine k_ix i [D.list (List.map rd x40)] (by first|rfl|omega|(rw [wrap64 _ (by omega) (by omega)];omega)|(rw [wrap64 _ (by omega) (by omega)];split<;>omega)) (Zb hx40) rfl ?_
     refine Zc (l:=L) (i:=(i+1)) (by first|omega|exact Nat.mod_lt _ (by omega)) fun x45 hx45=> ?_
     have hwx45:=ZY hx45
     have hzx45:=hL.2 x45 (List.mem_of_getElem? hx45)
     have hnx45:=hln _ _ hx45
     have hmx45:(List.map rd x45).length=n:=by rw [List.length_map,hnx45]
     refine k_ix (i+1) [D.list (List.map rd x45)] (by first|rfl|omega|(rw [wrap64 _ (by omega) (by omega)];omega)|(rw [wrap64 _ (by omega) (by omega)];split<;>omega)) (Zb hx45) rfl ?_
     have hpl:(gdL (wAt L 0)).length=n:=(Zhk hln (by omega))
     refine ZwO (p:=gdL (wAt L 0)) (q:=x40) (r:=x45) (gd_z hL2 _) hzx40.2 hzx45.2 (by omega) (by omega) (by omega) fun b47 hb47=> ?_
     refine⟨by kernel_rfl,?_⟩
     refine⟨fun e4=> ?_,fun e4=> ?_⟩
     ·have f49:¬ (b47=true):=fun hh=>ZbB hh (ZbZ e4)
      refine k_ix i [D.list (List.map rd x40)] (by first|rfl|omega|(rw [wrap64 _ (by omega) (by omega)];omega)|(rw [wrap64 _ (by omega) (by omega)];split<;>omega)) (Zb hx40) rfl ?_
      refine Zfm (L:=L) (i:=i) (q:=x40) hwx40 hzx40 ?_
      refine⟨⟨Nat.zero_lt_succ _,row1 rfl,row1 rfl,(by show (1+1)*24≤_;omega),(by show 1+1≤_;omega)⟩,?_⟩
      have hI: [i]=barI L (i+1):=Zbr g3 (by omega) (.inr (by rw [hwx40,hwx45];exact Bool.eq_false_iff.2 (fun h=>f49 (hb47.trans h))))
      refine⟨(i+1, [i]),⟨by omega,by omega,hI,by simp only [List.length_cons,List.length_append,List.length_nil] at g4 ⊢;omega⟩,by simp only;omega,?_⟩
      constructor<;>(repeat' (first|exact rfl|exact True.intro|apply And.intro))
      all_goals first
       |(simp [rowQ,rdcs];done)
       |exact congrArg (fun n:Int=>D.v (.int .i64 n)) (by rw [wrap64 _ (by omega) (by omega)];omega)
       |exact congrArg (fun n:Int=>D.v (.int .i64 n)) (by omega)
     ·have f49:¬ (¬ (b47=true)):=fun hh=>hh ((Zb0 e4))
      have hI: []=barI L (i+1):=ZdN g3 (by omega) (by rw [hwx40,hwx45];exact(hb47.symm.trans (Classical.not_not.1 f49)))
      refine⟨(i+1, []),⟨by omega,by omega,hI,by simp only [List.length_cons,List.length_append,List.length_nil] at g4 ⊢;omega⟩,by simp only;omega,?_⟩
      constructor<;>(repeat' (first|exact rfl|exact True.intro|apply And.intro))
      all_goals first
       |(simp [rowQ,rdcs];done)
       |exact congrArg (fun n:Int=>D.v (.int .i64 n)) (by rw [wrap64 _ (by omega) (by omega)];omega)
       |exact congrArg (fun n:Int=>D.v (.int .i64 n)) (by omega)
   ·simp only [List.length_nil,List.length_cons] at g4
    have hT3:(rowQ L (0 :: c :: r)).length=r.length+2:=by simp [rowQ]
    have hT2:(List.map rdcs (rowQ L (0 :: c :: r))).length=(rowQ L (0 :: c :: r)).length:=List.length_map ..
    have hT:(List.map rdcs (rowQ L (0 :: c :: r))).length≤62:=by omega
    refine fork (fun e5=> ?_) (fun e5=> ?_)
    ·have f31:(i:Int)=IntKind.i64.wrap (((List.map rdrs L).length:Int) - 1):=ZP e5
     refine⟨by kernel_rfl,?_⟩
     refine⟨fun _=> ?_,fun e=>absurd e (by decide)⟩
     refine Zc (l:=L) (i:=i) (by first|omega|exact Nat.mod_lt _ (by omega)) fun x53 hx53=> ?_
     have hwx53:=ZY hx53
     have hzx53:=hL.2 x53 (List.mem_of_getElem? hx53)
     have hnx53:=hln _ _ hx53
     have hmx53:(List.map rd x53).length=n:=by rw [List.length_map,hnx53]
     refine k_ix i [D.list (List.map rd x53)] (by first|rfl|omega|(rw [wrap64 _ (by omega) (by omega)];omega)|(rw [wrap64 _ (by omega) (by omega)];split<;>omega)) (Zb hx53) rfl ?_
     refine Zfm (L:=L) (i:=i) (q:=x53) hwx53 hzx53 ?_
     refine⟨⟨row1 rfl,(by show ((List.map rdcs (rowQ L (0 :: c :: r))).length+1)*24≤_;omega),(by show ((List.map rdcs (rowQ L (0 :: c :: r))).length+1)≤_;omega)⟩,?_⟩
     have hI:(c :: (r++ [i]))=barI L (i+1):=Zbr g3 (by omega) (.inl (by omega))
     refine⟨(i+1,c :: (r++ [i])),⟨by omega,by omega,hI,by simp only [List.length_cons,List.length_append,List.length_nil] at g4 ⊢;omega⟩,by simp only;omega,?_⟩
     constructor<;>(repeat' (first|exact rfl|exact True.intro|apply And.intro))
     all_goals first
      |(simp [rowQ,rdcs];done)
      |exact congrArg (fun n:Int=>D.v (.int .i64 n)) (by rw [wrap64 _ (by omega) (by omega)];omega)
      |exact congrArg (fun n:Int=>D.v (.int .i64 n)) (by omega)
    ·have f31:¬ ((i:Int)=IntKind.i64.wrap (((List.map rdrs L).length:Int) - 1)):=ZQ e5
     refine k_at_own' ((rowQ L (0 :: c :: r)).length - 1) (by first|rfl|omega|(rw [wrap64 _ (by omega) (by omega)];omega)|(rw [wrap64 _ (by omega) (by omega)];split<;>omega)) (by first|omega|(simp;omega)) ?_
     refine Zc (l:=(rowQ L (0 :: c :: r))) (i:=((rowQ L (0 :: c :: r)).length - 1)) (by first|omega|exact Nat.mod_lt _ (by omega)) fun x37 hx37=> ?_
     have hlx37:=ZhT hx37
     refine ZfR [D.list (List.map rdc x37)] _ (Zb hx37) rfl rfl ?_
     refine Zc (l:=L) (i:=i) (by first|omega|exact Nat.mod_lt _ (by omega)) fun x40 hx40=> ?_
     have hwx40:=ZY hx40
     have hzx40:=hL.2 x40 (List.mem_of_getElem? hx40)
     have hnx40:=hln _ _ hx40
     have hmx40:(List.map rd x40).length=n:=by rw [List.length_map,hnx40]
     refine k_ix i [D.list (List.map rd x40)] (by first|rfl|omega|(rw [wrap64 _ (by omega) (by omega)];omega)|(rw [wrap64 _ (by omega) (by omega)];split<;>omega)) (Zb hx40) rfl ?_
     refine Zc (l:=L) (i:=(i+1)) (by first|omega|exact Nat.mod_lt _ (by omega)) fun x45 hx45=> ?_
     have hwx45:=ZY hx45
     have hzx45:=hL.2 x45 (List.mem_of_getElem? hx45)
     have hnx45:=hln _ _ hx45
     have hmx45:(List.map rd x45).length=n:=by rw [List.length_map,hnx45]
     refine k_ix (i+1) [D.list (List.map rd x45)] (by first|rfl|omega|(rw [wrap64 _ (by omega) (by omega)];omega)|(rw [wrap64 _ (by omega) (by omega)];split<;>omega)) (Zb hx45) rfl ?_
     have hpl:(x37).length=n:=(by rw [hlx37];exact Zhk hln (by have:=ZoY g3 g1;omega))
     refine ZwO (p:=x37) (q:=x40) (r:=x45) (by rw [hlx37];exact gd_z hL2 _) hzx40.2 hzx45.2 (by omega) (by omega) (by omega) fun b47 hb47=> ?_
     refine⟨by kernel_rfl,?_⟩
     refine⟨fun e6=> ?_,fun e6=> ?_⟩
     ·have f49:¬ (b47=true):=fun hh=>ZbB hh (ZbZ e6)
      refine k_ix i [D.list (List.map rd x40)] (by first|rfl|omega|(rw [wrap64 _ (by omega) (by omega)];omega)|(rw [wrap64 _ (by omega) (by omega)];split<;>omega)) (Zb hx40) rfl ?_
      refine Zfm (L:=L) (i:=i) (q:=x40) hwx40 hzx40 ?_
      refine⟨⟨row1 rfl,(by show ((List.map rdcs (rowQ L (0 :: c :: r))).length+1)*24≤_;omega),(by show ((List.map rdcs (rowQ L (0 :: c :: r))).length+1)≤_;omega)⟩,?_⟩
      have hI:(c :: (r++ [i]))=barI L (i+1):=Zbr g3 (by omega) (.inr (by rw [← hlx37,hwx40,hwx45];exact Bool.eq_false_iff.2 (fun h=>f49 (hb47.trans h))))
      refine⟨(i+1,c :: (r++ [i])),⟨by omega,by omega,hI,by simp only [List.length_cons,List.length_append,List.length_nil] at g4 ⊢;omega⟩,by simp only;omega,?_⟩
      constructor<;>(repeat' (first|exact rfl|exact True.intro|apply And.intro))
      all_goals first
       |(simp [rowQ,rdcs];done)
       |exact congrArg (fun n:Int=>D.v (.int .i64 n)) (by rw [wrap64 _ (by omega) (by omega)];omega)
       |exact congrArg (fun n:Int=>D.v (.int .i64 n)) (by omega)
     ·have f49:¬ (¬ (b47=true)):=fun hh=>hh ((Zb0 e6))
      have hI:(c :: r)=barI L (i+1):=ZdN g3 (by omega) (by rw [← hlx37,hwx40,hwx45];exact(hb47.symm.trans (Classical.not_not.1 f49)))
      refine⟨(i+1,c :: r),⟨by omega,by omega,hI,by simp only [List.length_cons,List.length_append,List.length_nil] at g4 ⊢;omega⟩,by simp only;omega,?_⟩
      constructor<;>(repeat' (first|exact rfl|exact True.intro|apply And.intro))
      all_goals first
       |(simp [rowQ,rdcs];done)
       |exact congrArg (fun n:Int=>D.v (.int .i64 n)) (by rw [wrap64 _ (by omega) (by omega)];omega)
       |exact congrArg (fun n:Int=>D.v (.int .i64 n)) (by omega)
  ·have f23:¬ ((i:Int)< ((List.map rdrs L).length:Int)):=of_decide_eq_false e2
   rcases I with _|⟨c,r⟩
   ·simp only [List.length_nil,List.length_cons] at g4
    refine Eq.trans (b:= .tup [.one (.d (.list ([[D.list (List.map rdc (gdL (wAt L 0)))]]))),.one (.d (.v (.int .i64 (0))))]) ?_ rfl
    have hI:barI L L.length= []:=by rw [g3,show L.length=i by omega]
    rw [plnV_ok hc,hc,hI]
    all_goals rfl
   ·simp only [List.length_nil,List.length_cons] at g4
    have hT3:(rowQ L (0 :: c :: r)).length=r.length+2:=by simp [rowQ]
    have hT2:(List.map rdcs (rowQ L (0 :: c :: r))).length=(rowQ L (0 :: c :: r)).length:=List.length_map ..
    have hT:(List.map rdcs (rowQ L (0 :: c :: r))).length≤62:=by omega
    refine Eq.trans (b:= .tup [.one (.d (.list (List.map rdcs (rowQ L (0 :: c :: r))))),.one (.d (.v (.int .i64 (0))))]) ?_ rfl
    have hI:barI L L.length=(c :: r):=by rw [g3,show L.length=i by omega]
    rw [plnV_ok hc,hc,hI]
    all_goals rfl
theorem ZxZ {A:ArmV} {L:List (List RV)} (hA:A.ok) (hL:L.length≤1048576∧∀ q,q∈L→q.length≤1048576∧∀ x,x∈q→x.z≤1048576) (k:∀ n,n=chkE A L→K (.tup [.one (.d (.list (List.map rdcs (plnV A L)))),.one (.d (.v (.int .i64 n)))])):Ask 44 [.val (.agg [.d (.v (.string A.name)),.d (.v (.bool A.bx.s)),.d (.v (.string A.bx.a)),.d (.v (.string A.bx.d)),.d (.v (.bool A.by'.s)),.d (.v (.string A.by'.a)),.d (.v (.string A.by'.d)),.d (.v (.bool (A.bh))),.d (.v (.bool A.bt.s)),.d (.v (.string A.bt.a)),.d (.v (.string A.bt.d)),.d (.list (List.map lk A.links))]),.val (.one (.d (.list (List.map rdrs L))))] K:=use (Zs6 A L hA hL) rfl (k _ rfl)
end
end Go.Proofs.YtpfemjpgbpnpkaaGreatDoor.eng
namespace Go.Proofs.YtpfemjpgbpnpkaaGreatDoor.eng
open Go.RowKit num mem seg q held ratA ratB ratC ratD ratE vars ratF trq
section
variable {K : AV → Prop}
set_option maxHeartbeats 4000000 in
theorem ZqB (L:List (List RV)) (n:Nat) (hL:L.length≤1048576∧∀ q,q∈L→q.length≤1048576∧∀ x,x∈q→x.z≤1048576) (hn3:n≤3) (hn60:L.length≤60) (hln:∀ (i:Nat) (x:List RV),L[i]? =some x→x.length=n):Spec Tryz.prog Tab 45 [.val (.one (.d (.list (List.map rdrs L))))] (q3 (meaF L n L.length 0)):=by
 have hLL:(List.map rdrs L).length=L.length:=List.length_map ..
 have hL1:=hL.1
 have hL2:=hL.2
 refine Za Tryz.func45 rfl rfl Tryz.ntmps45 rfl (by kernel_rfl) rfl rfl ?_
 refine k_N3 (0) (by omega) (by omega) fun q7 h7 z7=> ?_
 have e7:q7=meaF L n 0 0:=by rw [h7,Zwq];rfl
 refine⟨Nat,fun i=> [(0,.val (.one (.d (.list (List.map rdrs L))))),(2,.val (.one (.ptr 2 0))),(3,.val (.one (.ptr 3 0))),(9,int ((List.map rdrs L).length:Int)),(10,int (i:Int))],
  fun i=> [(2,.var 51 [.d (.v (.bool false)),.d (.v (.slice none 0 0)),.d (.v (.slice none 0 0))]),(3,.var 51 [.d (.v (.bool (decide ((meaF L n i 0).num< 0)))),.d (.list (W (w32 (meaF L n i 0).num.natAbs))),.d (.list (W (w32 (meaF L n i 0).den)))])],fun i=>i≤L.length,fun i=>L.length - i,0,?_,Nat.zero_le _,fun i hs=> ?_⟩
 ·constructor<;>(repeat' (first|exact rfl|exact True.intro|exact⟨_,_,rfl⟩|exact(by decide)|apply And.intro))
  all_goals first
   |exact congrArg (fun q:Rat=>D.v (.bool (decide (q.num< 0)))) e7
   |exact congrArg (fun q:Rat=>D.v (.bool (decide (q.num< 0)))) e7.symm
   |exact congrArg (fun q:Rat=>D.list (W (w32 q.num.natAbs))) e7
   |exact congrArg (fun q:Rat=>D.list (W (w32 q.num.natAbs))) e7.symm
   |exact congrArg (fun q:Rat=>D.list (W (w32 q.den))) e7
   |exact congrArg (fun q:Rat=>D.list (W (w32 q.den))) e7.symm
   |exact congrArg (fun n:Int=>D.v (.int .i64 n)) (by omega)
   |(simp;done)
 refine⟨fun e1=> ?_,fun e1=> ?_⟩
 ·have f11:(i:Int)< ((List.map rdrs L).length:Int):=of_decide_eq_true e1
  refine Zc (l:=L) (i:=i) (by first|omega|exact Nat.mod_lt _ (by omega)) fun x15 hx15=> ?_
  have hwx15:=ZY hx15
  have hzx15:=hL.2 x15 (List.mem_of_getElem? hx15)
  have hnx15:=hln _ _ hx15
  have hmx15:(List.map rd x15).length=n:=by rw [List.length_map,hnx15]
  refine k_ix i [D.list (List.map rd x15)] (by first|rfl|omega|(rw [wrap64 _ (by omega) (by omega)];omega)|(rw [wrap64 _ (by omega) (by omega)];split<;>omega)) (Zb hx15) rfl ?_
  refine⟨Nat,fun k=> [(0,.val (.one (.d (.list (List.map rdrs L))))),(2,.val (.one (.ptr 2 0))),(3,.val (.one (.ptr 3 0))),(4,int (i:Int)),(9,int ((List.map rdrs L).length:Int)),(10,int (i:Int)),(16,.val (.one (.d (.list (List.map rd x15))))),(17,int ((List.map rd x15).length:Int)),(18,int (k:Int))],
   fun k=> [(2,.var 51 [.d (.v (.bool false)),.d (.v (.slice none 0 0)),.d (.v (.slice none 0 0))]),(3,.var 51 [.d (.v (.bool (decide ((meaF L n i k).num< 0)))),.d (.list (W (w32 (meaF L n i k).num.natAbs))),.d (.list (W (w32 (meaF L n i k).den)))])],fun k=>k≤n,fun k=>n - k,0,?_,Nat.zero_le _,fun k hs=> ?_⟩
  ·constructor<;>(repeat' (first|exact rfl|exact True.intro|exact⟨_,_,rfl⟩|exact(by decide)|apply And.intro))
   all_goals first|exact congrArg (fun n:Int=>D.v (.int .i64 n)) (by omega)|exact congrArg (fun n:Int=>D.v (.int .i64 n)) (by rw [wrap64 _ (by omega) (by omega)];omega)|(simp;done)
  have hmz:=ZoS hL2 hn3 (i:=i) (k:=k) (by omega) (by omega)
  refine⟨fun e2=> ?_,fun e2=> ?_⟩
  ·have f19:(k:Int)< ((List.map rd x15).length:Int):=of_decide_eq_true e2
   refine Zc (l:=x15) (i:=k) (by first|omega|exact Nat.mod_lt _ (by omega)) fun x21 hx21=> ?_
   have hzx21:=hzx15.2 x21 (List.mem_of_getElem? hx21)
   have hqx21:=ZR hx21
   refine k_ix k [D.v (.bool x21.s),D.v (.string x21.a),D.v (.string x21.d)] (by first|rfl|omega|(rw [wrap64 _ (by omega) (by omega)];omega)|(rw [wrap64 _ (by omega) (by omega)];split<;>omega)) (Zb hx21) rfl ?_
   refine Zr (x:=x21) (by omega) fun q25 h25 z25=> ?_
   refine Zc (l:=L) (i:=(i - 1)) (by first|omega|exact Nat.mod_lt _ (by omega)) fun x30 hx30=> ?_
   have hwx30:=ZY hx30
   have hzx30:=hL.2 x30 (List.mem_of_getElem? hx30)
   have hnx30:=hln _ _ hx30
   have hmx30:(List.map rd x30).length=n:=by rw [List.length_map,hnx30]
   refine k_ix (i - 1) [D.list (List.map rd x30)] (by first|rfl|omega|(rw [wrap64 _ (by omega) (by omega)];omega)|(rw [wrap64 _ (by omega) (by omega)];split<;>omega)) (Zb hx30) rfl ?_
   refine Zc (l:=x30) (i:=k) (by first|omega|exact Nat.mod_lt _ (by omega)) fun x33 hx33=> ?_
   have hzx33:=hzx30.2 x33 (List.mem_of_getElem? hx33)
   have hqx33:=ZR hx33
   refine k_ix k [D.v (.bool x33.s),D.v (.string x33.a),D.v (.string x33.d)] (by first|rfl|omega|(rw [wrap64 _ (by omega) (by omega)];omega)|(rw [wrap64 _ (by omega) (by omega)];split<;>omega)) (Zb hx33) rfl ?_
   refine Zr (x:=x33) (by omega) fun q35 h35 z35=> ?_
   refine ZaJ (p:=q25) (q:=q35) (by omega) (by omega) fun q36 h36 z36=> ?_
   refine Zph (q:=q36)  (fun r37 hk_37_1 hk_37_2=> ?_)
   refine Zcf (p:=(meaF L n i k)) (q:=r37) (by omega) (by omega) fun q38 h38 z38=> ?_
   refine⟨by kernel_rfl,?_⟩
   have e38:q38=meaF L n i (k+1):=by
    rw [ZtF,h38,hk_37_1,h36,h25,h35,← hqx21,← hqx33,← hwx15,← hwx30];rfl
   refine⟨(k+1),by omega,by simp only;omega,?_⟩
   constructor<;>(repeat' (first|exact rfl|exact True.intro|apply And.intro))
   all_goals first
    |exact congrArg (fun q:Rat=>D.v (.bool (decide (q.num< 0)))) e38
    |exact congrArg (fun q:Rat=>D.v (.bool (decide (q.num< 0)))) e38.symm
    |exact congrArg (fun q:Rat=>D.list (W (w32 q.num.natAbs))) e38
    |exact congrArg (fun q:Rat=>D.list (W (w32 q.num.natAbs))) e38.symm
    |exact congrArg (fun q:Rat=>D.list (W (w32 q.den))) e38
    |exact congrArg (fun q:Rat=>D.list (W (w32 q.den))) e38.symm
    |exact congrArg (fun n:Int=>D.v (.int .i64 n)) (by rw [wrap64 _ (by omega) (by omega)];omega)
    |exact congrArg (fun n:Int=>D.v (.int .i64 n)) (by omega)
  ·have f19:¬ ((k:Int)< ((List.map rd x15).length:Int)):=of_decide_eq_false e2
   have ei:meaF L n i k=meaF L n (i+1) 0:=by rw [ZtG,show k=n by omega]
   refine⟨i+1,by omega,by simp only;omega,?_⟩
   constructor<;>(repeat' (first|exact rfl|exact True.intro|apply And.intro))
   all_goals first
    |exact congrArg (fun q:Rat=>D.v (.bool (decide (q.num< 0)))) ei
    |exact congrArg (fun q:Rat=>D.v (.bool (decide (q.num< 0)))) ei.symm
    |exact congrArg (fun q:Rat=>D.list (W (w32 q.num.natAbs))) ei
    |exact congrArg (fun q:Rat=>D.list (W (w32 q.num.natAbs))) ei.symm
    |exact congrArg (fun q:Rat=>D.list (W (w32 q.den))) ei
    |exact congrArg (fun q:Rat=>D.list (W (w32 q.den))) ei.symm
    |exact congrArg (fun n:Int=>D.v (.int .i64 n)) (by rw [wrap64 _ (by omega) (by omega)];omega)
    |exact congrArg (fun n:Int=>D.v (.int .i64 n)) (by omega)
 ·have f11:¬ ((i:Int)< ((List.map rdrs L).length:Int)):=of_decide_eq_false e1
  refine Eq.trans (b:=q3 (meaF L n i 0)) ?_ rfl
  have hi:i=L.length:=by omega
  rw [← hi]
  all_goals rfl
def ptAV:Option Rat→AV
 |none=> .val (.one (.d (.v (.pointer none))))
 |some q=> .val (.one (.ref [D.v (.bool (decide (q.num< 0))),D.list (W (w32 q.num.natAbs)),D.list (W (w32 q.den))]))
set_option maxHeartbeats 8000000 in
theorem ZrK (p:List Rat) (q r:List RV) (hp:∀ x,x∈p→qs x≤2097152) (hq:∀ x,x∈q→x.z≤1048576) (hr:∀ x,x∈r→x.z≤1048576) (hlq:q.length=p.length) (hlr:r.length=p.length) (hn:p.length≤1048576):Spec Tryz.prog Tab 149 [.val (.one (.d (.list (List.map rdc p)))),.val (.one (.d (.list (List.map rd q)))),.val (.one (.d (.list (List.map rd r))))] (bool (btwB p q r)):=by
 have hLp:(List.map rdc p).length=p.length:=List.length_map ..
 have hLq:(List.map rd q).length=q.length:=List.length_map ..
 have hLr:(List.map rd r).length=r.length:=List.length_map ..
 refine Za Tryz.func149 rfl rfl Tryz.ntmps149 rfl (by kernel_rfl) rfl rfl ?_
 refine⟨Nat×Option Rat,fun (i,pt)=> [(0,.val (.one (.d (.list (List.map rdc p))))),(1,.val (.one (.d (.list (List.map rd q))))),(2,.val (.one (.d (.list (List.map rd r))))),(7,ptAV pt),(14,int ((List.map rdc p).length:Int)),(15,int (i:Int))],
  fun (i,pt)=> [],fun (i,pt)=>i≤p.length∧onS (rAt p) (qAt q) (qAt r) i pt∧∀ y,pt=some y→qs y≤16777216,fun (i,pt)=>p.length - i,(0,none),?_,⟨Nat.zero_le _,ZxI,fun y h=>by simp at h⟩,fun s hs=> ?_⟩
 ·constructor<;>(repeat' (first|exact rfl|exact True.intro|exact⟨_,_,rfl⟩|exact(by decide)|apply And.intro))
  all_goals first|exact congrArg (fun n:Int=>D.v (.int .i64 n)) (by omega)|exact congrArg (fun n:Int=>D.v (.int .i64 n)) (by rw [wrap64 _ (by omega) (by omega)];omega)|(simp;done)
 obtain⟨i,pt⟩:=s
 obtain⟨g1,g2,g5⟩:=hs
 try simp only at g1 g2 g5
 refine⟨fun e1=> ?_,fun e1=> ?_⟩
 ·have f16:(i:Int)< ((List.map rdc p).length:Int):=of_decide_eq_true e1
  rcases pt with _|y
  ·refine Zc (l:=p) (i:=i) (by first|omega|exact Nat.mod_lt _ (by omega)) fun x20 hx20=> ?_
   have hzx20:=hp x20 (List.mem_of_getElem? hx20)
   have hqx20:=Zh0 hx20
   refine k_ix i [D.v (.bool (cn x20).s),D.v (.string (cn x20).a),D.v (.string (cn x20).d)] (by first|rfl|omega|(rw [wrap64 _ (by omega) (by omega)];omega)|(rw [wrap64 _ (by omega) (by omega)];split<;>omega)) (Zb hx20) rfl ?_
   refine Zr (x:=cn x20) (by simp only [cn_z];omega) fun q22 h22 z22=> ?_
   simp only [cn_q] at h22
   simp only [cn_z] at z22
   refine Zc (l:=q) (i:=i) (by first|omega|exact Nat.mod_lt _ (by omega)) fun x25 hx25=> ?_
   have hzx25:=hq x25 (List.mem_of_getElem? hx25)
   have hqx25:=ZR hx25
   refine k_ix i [D.v (.bool x25.s),D.v (.string x25.a),D.v (.string x25.d)] (by first|rfl|omega|(rw [wrap64 _ (by omega) (by omega)];omega)|(rw [wrap64 _ (by omega) (by omega)];split<;>omega)) (Zb hx25) rfl ?_
   refine Zr (x:=x25) (by omega) fun q27 h27 z27=> ?_
   refine Zc (l:=r) (i:=i) (by first|omega|exact Nat.mod_lt _ (by omega)) fun x30 hx30=> ?_
   have hzx30:=hr x30 (List.mem_of_getElem? hx30)
   have hqx30:=ZR hx30
   refine k_ix i [D.v (.bool x30.s),D.v (.string x30.a),D.v (.string x30.d)] (by first|rfl|omega|(rw [wrap64 _ (by omega) (by omega)];omega)|(rw [wrap64 _ (by omega) (by omega)];split<;>omega)) (Zb hx30) rfl ?_
   refine Zr (x:=x30) (by omega) fun q32 h32 z32=> ?_
   refine⟨by kernel_rfl,?_⟩
   refine Zbo (p:=q32) (q:=q22) (by omega) (by omega) fun n35 h35=> ?_
   refine⟨fun e2=> ?_,fun e2=> ?_⟩
   ·have f36:q32=q22:=(ZfV h35).1 (ZP e2)
    refine Zbo (p:=q27) (q:=q22) (by omega) (by omega) fun n39 h39=> ?_
    refine⟨fun e3=> ?_,fun e3=> ?_⟩
    ·have f40:¬ q27=q22:=fun hh=>Zv e3 ((ZfV h39).2 hh)
     refine Eq.trans (b:=bool false) ?_ rfl
     rw [ZcK (Ztz (i:=i) (by omega) (by rw [hqx30,hqx20,← h32,← h22];exact f36) (by rw [hqx25,hqx20,← h27,← h22];exact f40))]
     all_goals rfl
    ·have f40:¬ (¬ q27=q22):=fun hh=>hh ((ZfV h39).1 (Zw e3))
     refine⟨(i+1,none),⟨by omega,ZtB g2 (by rw [hqx30,hqx20,← h32,← h22];exact f36) (by rw [hqx25,hqx20,← h27,← h22];exact Classical.not_not.1 f40),fun y2 hy2=>by simp at hy2⟩,by simp only;omega,?_⟩
     constructor<;>(repeat' (first|exact rfl|exact True.intro|apply And.intro))
     all_goals first
      |exact congrArg (fun n:Int=>D.v (.int .i64 n)) (by rw [wrap64 _ (by omega) (by omega)];omega)
      |exact congrArg (fun n:Int=>D.v (.int .i64 n)) (by omega)
   ·have f36:¬ (q32=q22):=fun hh=>ZQ e2 ((ZfV h35).2 hh)
    refine ZaJ (p:=q27) (q:=q22) (by omega) (by omega) fun q43 h43 z43=> ?_
    refine ZaJ (p:=q32) (q:=q22) (by omega) (by omega) fun q46 h46 z46=> ?_
    refine Zgo (p:=q43) (q:=q46) (by omega) (by omega) (by rw [h46];exact fun e=>f36 (by grind)) fun q47 h47 z47=> ?_
    refine⟨by kernel_rfl,?_⟩
    refine Zaf (q:=q47) fun n49 h49=> ?_
    refine fork (fun e4=> ?_) (fun e4=> ?_)
    ·have f51:q47< 0:=(Zf9 h49).1 (of_decide_eq_true e4)
     refine⟨by kernel_rfl,?_⟩
     refine⟨fun _=> ?_,fun e=>absurd e (by decide)⟩
     refine Eq.trans (b:=bool false) ?_ rfl
     rw [ZcK (ZkU (i:=i) (x:=q47) (by omega) (by rw [hqx30,hqx20,← h32,← h22];exact f36) (by rw [h47,h43,h46,h27,h22,h32,← hqx25,← hqx20,← hqx30];rfl) (.inl f51))]
     all_goals rfl
    ·have f51:¬ (q47< 0):=fun hh=>of_decide_eq_false e4 ((Zf9 h49).2 hh)
     refine k_N3 (1) (by omega) (by omega) fun q53 h53 z53=> ?_
     refine Zbo (p:=q47) (q:=q53) (by omega) (by omega) fun n54 h54=> ?_
     refine fork (fun e5=> ?_) (fun e5=> ?_)
     ·have f57:q53< q47:=(ZfU h54).1 (of_decide_eq_true e5)
      refine⟨by kernel_rfl,?_⟩
      refine⟨fun _=> ?_,fun e=>absurd e (by decide)⟩
      refine Eq.trans (b:=bool false) ?_ rfl
      rw [ZcK (ZkU (i:=i) (x:=q47) (by omega) (by rw [hqx30,hqx20,← h32,← h22];exact f36) (by rw [h47,h43,h46,h27,h22,h32,← hqx25,← hqx20,← hqx30];rfl) (.inr (by have:=f57;rw [h53] at this;exact this)))]
      all_goals rfl
     ·have f57:¬ (q53< q47):=fun hh=>of_decide_eq_false e5 ((ZfU h54).2 hh)
      refine⟨_,⟨_,rfl,rfl,fun w=>ZrQ (by kernel_rfl) w⟩,?_⟩
      refine⟨by kernel_rfl,?_⟩
      refine⟨fun e=>absurd e (by decide),fun _=> ?_⟩
      refine⟨(i+1,some q47),⟨by omega,ZtA g2 (by rw [hqx30,hqx20,← h32,← h22];exact f36) (by rw [h47,h43,h46,h27,h22,h32,← hqx25,← hqx20,← hqx30];rfl) (Rat.not_lt.1 f51) (by have:=Rat.not_lt.1 f57;rw [h53] at this;exact this) (.inl rfl),fun y2 hy2=>by obtain rfl:=Option.some.inj hy2;omega⟩,by simp only;omega,?_⟩
      constructor<;>(repeat' (first|exact rfl|exact True.intro|apply And.intro))
      all_goals first
       |exact congrArg (fun n:Int=>D.v (.int .i64 n)) (by rw [wrap64 _ (by omega) (by omega)];omega)
       |exact congrArg (fun n:Int=>D.v (.int .i64 n)) (by omega)
  ·have hzy:=g5 y rfl
   refine Zc (l:=p) (i:=i) (by first|omega|exact Nat.mod_lt _ (by omega)) fun x20 hx20=> ?_
   have hzx20:=hp x20 (List.mem_of_getElem? hx20)
   have hqx20:=Zh0 hx20
   refine k_ix i [D.v (.bool (cn x20).s),D.v (.string (cn x20).a),D.v (.string (cn x20).d)] (by first|rfl|omega|(rw [wrap64 _ (by omega) (by omega)];omega)|(rw [wrap64 _ (by omega) (by omega)];split<;>omega)) (Zb hx20) rfl ?_
   refine Zr (x:=cn x20) (by simp only [cn_z];omega) fun q22 h22 z22=> ?_
   simp only [cn_q] at h22
   simp only [cn_z] at z22
   refine Zc (l:=q) (i:=i) (by first|omega|exact Nat.mod_lt _ (by omega)) fun x25 hx25=> ?_
   have hzx25:=hq x25 (List.mem_of_getElem? hx25)
   have hqx25:=ZR hx25
   refine k_ix i [D.v (.bool x25.s),D.v (.string x25.a),D.v (.string x25.d)] (by first|rfl|omega|(rw [wrap64 _ (by omega) (by omega)];omega)|(rw [wrap64 _ (by omega) (by omega)];split<;>omega)) (Zb hx25) rfl ?_
   refine Zr (x:=x25) (by omega) fun q27 h27 z27=> ?_
   refine Zc (l:=r) (i:=i) (by first|omega|exact Nat.mod_lt _ (by omega)) fun x30 hx30=> ?_
   have hzx30:=hr x30 (List.mem_of_getElem? hx30)
   have hqx30:=ZR hx30
   refine k_ix i [D.v (.bool x30.s),D.v (.string x30.a),D.v (.string x30.d)] (by first|rfl|omega|(rw [wrap64 _ (by omega) (by omega)];omega)|(rw [wrap64 _ (by omega) (by omega)];split<;>omega)) (Zb hx30) rfl ?_
   refine Zr (x:=x30) (by omega) fun q32 h32 z32=> ?_
   refine⟨by kernel_rfl,?_⟩
   refine Zbo (p:=q32) (q:=q22) (by omega) (by omega) fun n35 h35=> ?_
   refine⟨fun e6=> ?_,fun e6=> ?_⟩
   ·have f36:q32=q22:=(ZfV h35).1 (ZP e6)
    refine Zbo (p:=q27) (q:=q22) (by omega) (by omega) fun n39 h39=> ?_
    refine⟨fun e7=> ?_,fun e7=> ?_⟩
    ·have f40:¬ q27=q22:=fun hh=>Zv e7 ((ZfV h39).2 hh)
     refine Eq.trans (b:=bool false) ?_ rfl
     rw [ZcK (Ztz (i:=i) (by omega) (by rw [hqx30,hqx20,← h32,← h22];exact f36) (by rw [hqx25,hqx20,← h27,← h22];exact f40))]
     all_goals rfl
    ·have f40:¬ (¬ q27=q22):=fun hh=>hh ((ZfV h39).1 (Zw e7))
     refine⟨(i+1,some y),⟨by omega,ZtB g2 (by rw [hqx30,hqx20,← h32,← h22];exact f36) (by rw [hqx25,hqx20,← h27,← h22];exact Classical.not_not.1 f40),fun y2 hy2=>by obtain rfl:=Option.some.inj hy2;omega⟩,by simp only;omega,?_⟩
     constructor<;>(repeat' (first|exact rfl|exact True.intro|apply And.intro))
     all_goals first
      |exact congrArg (fun n:Int=>D.v (.int .i64 n)) (by rw [wrap64 _ (by omega) (by omega)];omega)
      |exact congrArg (fun n:Int=>D.v (.int .i64 n)) (by omega)
   ·have f36:¬ (q32=q22):=fun hh=>ZQ e6 ((ZfV h35).2 hh)
    refine ZaJ (p:=q27) (q:=q22) (by omega) (by omega) fun q43 h43 z43=> ?_
    refine ZaJ (p:=q32) (q:=q22) (by omega) (by omega) fun q46 h46 z46=> ?_
    refine Zgo (p:=q43) (q:=q46) (by omega) (by omega) (by rw [h46];exact fun e=>f36 (by grind)) fun q47 h47 z47=> ?_
    refine⟨by kernel_rfl,?_⟩
    refine Zaf (q:=q47) fun n49 h49=> ?_
    refine fork (fun e8=> ?_) (fun e8=> ?_)
    ·have f51:q47< 0:=(Zf9 h49).1 (of_decide_eq_true e8)
     refine⟨by kernel_rfl,?_⟩
     refine⟨fun _=> ?_,fun e=>absurd e (by decide)⟩
     refine Eq.trans (b:=bool false) ?_ rfl
     rw [ZcK (ZkU (i:=i) (x:=q47) (by omega) (by rw [hqx30,hqx20,← h32,← h22];exact f36) (by rw [h47,h43,h46,h27,h22,h32,← hqx25,← hqx20,← hqx30];rfl) (.inl f51))]
     all_goals rfl
    ·have f51:¬ (q47< 0):=fun hh=>of_decide_eq_false e8 ((Zf9 h49).2 hh)
     refine k_N3 (1) (by omega) (by omega) fun q53 h53 z53=> ?_
     refine Zbo (p:=q47) (q:=q53) (by omega) (by omega) fun n54 h54=> ?_
     refine fork (fun e9=> ?_) (fun e9=> ?_)
     ·have f57:q53< q47:=(ZfU h54).1 (of_decide_eq_true e9)
      refine⟨by kernel_rfl,?_⟩
      refine⟨fun _=> ?_,fun e=>absurd e (by decide)⟩
      refine Eq.trans (b:=bool false) ?_ rfl
      rw [ZcK (ZkU (i:=i) (x:=q47) (by omega) (by rw [hqx30,hqx20,← h32,← h22];exact f36) (by rw [h47,h43,h46,h27,h22,h32,← hqx25,← hqx20,← hqx30];rfl) (.inr (by have:=f57;rw [h53] at this;exact this)))]
      all_goals rfl
     ·have f57:¬ (q53< q47):=fun hh=>of_decide_eq_false e9 ((ZfU h54).2 hh)
      refine⟨_,⟨by kernel_rfl,rfl⟩,?_⟩
      refine Zbo (p:=y) (q:=q47) (by omega) (by omega) fun n65 h65=> ?_
      refine⟨by kernel_rfl,?_⟩
      refine⟨fun e10=> ?_,fun e10=> ?_⟩
      ·have f68:¬ y=q47:=fun hh=>Zv e10 ((ZfV h65).2 hh)
       refine Eq.trans (b:=bool false) ?_ rfl
       rw [ZcK (Zwi (x:=q47) g2 (by omega) (by rw [hqx30,hqx20,← h32,← h22];exact f36) (by rw [h47,h43,h46,h27,h22,h32,← hqx25,← hqx20,← hqx30];rfl) rfl f68)]
       all_goals rfl
      ·have f68:¬ (¬ y=q47):=fun hh=>hh ((ZfV h65).1 (Zw e10))
       refine⟨(i+1,some q47),⟨by omega,ZtA g2 (by rw [hqx30,hqx20,← h32,← h22];exact f36) (by rw [h47,h43,h46,h27,h22,h32,← hqx25,← hqx20,← hqx30];rfl) (Rat.not_lt.1 f51) (by have:=Rat.not_lt.1 f57;rw [h53] at this;exact this) (.inr (congrArg some (Classical.not_not.1 f68))),fun y2 hy2=>by obtain rfl:=Option.some.inj hy2;omega⟩,by simp only;omega,?_⟩
       constructor<;>(repeat' (first|exact rfl|exact True.intro|apply And.intro))
       all_goals first
        |exact congrArg (fun n:Int=>D.v (.int .i64 n)) (by rw [wrap64 _ (by omega) (by omega)];omega)
        |exact congrArg (fun n:Int=>D.v (.int .i64 n)) (by omega)
 ·have f16:¬ ((i:Int)< ((List.map rdc p).length:Int)):=of_decide_eq_false e1
  refine Eq.trans (b:=bool true) ?_ rfl
  rw [Zt7 (Zwj (by rw [← show i=p.length by omega];exact g2))]
  all_goals rfl
theorem ZwA {p:List Rat} {q r:List RV} (hp:∀ x,x∈p→qs x≤2097152) (hq:∀ x,x∈q→x.z≤1048576) (hr:∀ x,x∈r→x.z≤1048576) (hlq:q.length=p.length) (hlr:r.length=p.length) (hn:p.length≤1048576) (k:∀ b,b=btwB p q r→K (bool b)):Ask 149 [.val (.one (.d (.list (List.map rdc p)))),.val (.one (.d (.list (List.map rd q)))),.val (.one (.d (.list (List.map rd r))))] K:=use (ZrK p q r hp hq hr hlq hlr hn) rfl (k _ rfl)
set_option maxHeartbeats 8000000 in
theorem Zm0 (L:List (List RV)) (n:Nat) (hL:L.length≤1048576∧∀ q,q∈L→q.length≤1048576∧∀ x,x∈q→x.z≤1048576) (hn3:n≤3) (hn60:L.length≤60) (hln:∀ (i:Nat) (x:List RV),L[i]? =some x→x.length=n) (hn0:¬ L.length=0):Spec Tryz.prog Tab 47 [.val (.one (.d (.list (List.map rdrs L))))] (.val (.one (.d (.list (List.map rdcs (rowQ L (0 :: barI L L.length))))))):=by
 have hLL:(List.map rdrs L).length=L.length:=List.length_map ..
 have hL1:=hL.1
 have hL2:=hL.2
 refine Za Tryz.func47 rfl rfl Tryz.ntmps47 rfl (by kernel_rfl) rfl rfl ?_
 refine Zc (l:=L) (i:=0) (by first|omega|exact Nat.mod_lt _ (by omega)) fun x6 hx6=> ?_
 have hwx6:=ZY hx6
 have hzx6:=hL.2 x6 (List.mem_of_getElem? hx6)
 have hnx6:=hln _ _ hx6
 have hmx6:(List.map rd x6).length=n:=by rw [List.length_map,hnx6]
 refine k_ix 0 [D.list (List.map rd x6)] (by first|rfl|omega|(rw [wrap64 _ (by omega) (by omega)];omega)|(rw [wrap64 _ (by omega) (by omega)];split<;>omega)) (Zb hx6) rfl ?_
 refine Zdy (L:=L) (i:=0) (q:=x6) hwx6 hzx6 ?_
 refine⟨Nat×List Nat,fun (i,I)=> [(0,.val (.one (.d (.list (List.map rdrs L))))),(3,trAV 47 L I),(4,int (i:Int))],
  fun (i,I)=> []++trOb 47 L I,fun (i,I)=>1≤i∧i≤L.length∧I=barI L i∧I.length≤i,fun (i,I)=>L.length - i,(1, []),?_,⟨Nat.le_refl _,by omega,rfl,by simp⟩,fun s hs=> ?_⟩
 ·constructor<;>(repeat' (first|exact rfl|exact True.intro|exact⟨_,_,rfl⟩|exact(by decide)|apply And.intro))
  all_goals first|exact congrArg (fun n:Int=>D.v (.int .i64 n)) (by omega)|exact congrArg (fun n:Int=>D.v (.int .i64 n)) (by rw [wrap64 _ (by omega) (by omega)];omega)|(simp;done)
 obtain⟨i,I⟩:=s
 obtain⟨g1,g2,g3,g4⟩:=hs
 try simp only at g1 g2 g3 g4
 refine⟨fun e1=> ?_,fun e1=> ?_⟩
 ·have f13:(i:Int)< ((List.map rdrs L).length:Int):=of_decide_eq_true e1
  have hwi:IntKind.i64.wrap ((i:Int)+1)=(i:Int)+1:=wrap64 _ (by omega) (by omega)
  rcases I with _|⟨c,r⟩
  ·simp only [List.length_nil,List.length_cons] at g4
   refine fork (fun e2=> ?_) (fun e2=> ?_)
   ·have f21:IntKind.i64.wrap ((i:Int)+1)=((List.map rdrs L).length:Int):=ZP e2
    refine⟨by kernel_rfl,?_⟩
    refine⟨fun _=> ?_,fun e=>absurd e (by decide)⟩
    refine Zc (l:=L) (i:=i) (by first|omega|exact Nat.mod_lt _ (by omega)) fun x43 hx43=> ?_
    have hwx43:=ZY hx43
    have hzx43:=hL.2 x43 (List.mem_of_getElem? hx43)
    have hnx43:=hln _ _ hx43
    have hmx43:(List.map rd x43).length=n:=by rw [List.length_map,hnx43]
    refine k_ix i [D.list (List.map rd x43)] (by first|rfl|omega|(rw [wrap64 _ (by omega) (by omega)];omega)|(rw [wrap64 _ (by omega) (by omega)];split<;>omega)) (Zb hx43) rfl ?_
    refine Zdy (L:=L) (i:=i) (q:=x43) hwx43 hzx43 ?_
    refine⟨⟨Nat.zero_lt_succ _,row1 rfl,row1 rfl,(by show (1+1)*24≤_;omega),(by show 1+1≤_;omega)⟩,?_⟩
    have hI: [i]=barI L (i+1):=Zbr g3 (by omega) (.inl (by omega))
    refine⟨(i+1, [i]),⟨by omega,by omega,hI,by simp only [List.length_cons,List.length_append,List.length_nil] at g4 ⊢;omega⟩,by simp only;omega,?_⟩
    constructor<;>(repeat' (first|exact rfl|exact True.intro|apply And.intro))
    all_goals first
     |(simp [rowQ,rdcs];done)
     |exact congrArg (fun n:Int=>D.v (.int .i64 n)) (by rw [wrap64 _ (by omega) (by omega)];omega)
     |exact congrArg (fun n:Int=>D.v (.int .i64 n)) (by omega)
   ·have f21:¬ (IntKind.i64.wrap ((i:Int)+1)=((List.map rdrs L).length:Int)):=ZQ e2
    refine k_ix 0 [D.list (List.map rdc (gdL (wAt L 0)))] (by first|rfl|omega|(rw [wrap64 _ (by omega) (by omega)];omega)|(rw [wrap64 _ (by omega) (by omega)];split<;>omega)) rfl rfl ?_
    refine Zc (l:=L) (i:=i) (by first|omega|exact Nat.mod_lt _ (by omega)) fun x30 hx30=> ?_
    have hwx30:=ZY hx30
    have hzx30:=hL.2 x30 (List.mem_of_getElem? hx30)
    have hnx30:=hln _ _ hx30
    have hmx30:(List.map rd x30).length=n:=by rw [List.length_map,hnx30]
    refine k_ix i [D.list (List.map rd x30)] (by first|rfl|omega|(rw [wrap64 _ (by omega) (by omega)];omega)|(rw [wrap64 _ (by omega) (by omega)];split<;>omega)) (Zb hx30) rfl ?_
    refine Zc (l:=L) (i:=(i+1)) (by first|omega|exact Nat.mod_lt _ (by omega)) fun x35 hx35=> ?_
    have hwx35:=ZY hx35
    have hzx35:=hL.2 x35 (List.mem_of_getElem? hx35)
    have hnx35:=hln _ _ hx35
    have hmx35:(List.map rd x35).length=n:=by rw [List.length_map,hnx35]
    refine k_ix (i+1) [D.list (List.map rd x35)] (by first|rfl|omega|(rw [wrap64 _ (by omega) (by omega)];omega)|(rw [wrap64 _ (by omega) (by omega)];split<;>omega)) (Zb hx35) rfl ?_
    have hpl:(gdL (wAt L 0)).length=n:=(Zhk hln (by omega))
    refine ZwA (p:=gdL (wAt L 0)) (q:=x30) (r:=x35) (gd_z hL2 _) hzx30.2 hzx35.2 (by omega) (by omega) (by omega) fun b37 hb37=> ?_
    refine⟨by kernel_rfl,?_⟩
    refine⟨fun e3=> ?_,fun e3=> ?_⟩
    ·have f39:¬ (b37=true):=fun hh=>ZbB hh (ZbZ e3)
     refine k_ix i [D.list (List.map rd x30)] (by first|rfl|omega|(rw [wrap64 _ (by omega) (by omega)];omega)|(rw [wrap64 _ (by omega) (by omega)];split<;>omega)) (Zb hx30) rfl ?_
     refine Zdy (L:=L) (i:=i) (q:=x30) hwx30 hzx30 ?_
     refine⟨⟨Nat.zero_lt_succ _,row1 rfl,row1 rfl,(by show (1+1)*24≤_;omega),(by show 1+1≤_;omega)⟩,?_⟩
     have hI: [i]=barI L (i+1):=Zbr g3 (by omega) (.inr (by rw [hwx30,hwx35];exact Bool.eq_false_iff.2 (fun h=>f39 (hb37.trans h))))
     refine⟨(i+1, [i]),⟨by omega,by omega,hI,by simp only [List.length_cons,List.length_append,List.length_nil] at g4 ⊢;omega⟩,by simp only;omega,?_⟩
     constructor<;>(repeat' (first|exact rfl|exact True.intro|apply And.intro))
     all_goals first
      |(simp [rowQ,rdcs];done)
      |exact congrArg (fun n:Int=>D.v (.int .i64 n)) (by rw [wrap64 _ (by omega) (by omega)];omega)
      |exact congrArg (fun n:Int=>D.v (.int .i64 n)) (by omega)
    ·have f39:¬ (¬ (b37=true)):=fun hh=>hh ((Zb0 e3))
     have hI: []=barI L (i+1):=ZdN g3 (by omega) (by rw [hwx30,hwx35];exact(hb37.symm.trans (Classical.not_not.1 f39)))
     refine⟨(i+1, []),⟨by omega,by omega,hI,by simp only [List.length_cons,List.length_append,List.length_nil] at g4 ⊢;omega⟩,by simp only;omega,?_⟩
     constructor<;>(repeat' (first|exact rfl|exact True.intro|apply And.intro))
     all_goals first
      |(simp [rowQ,rdcs];done)
      |exact congrArg (fun n:Int=>D.v (.int .i64 n)) (by rw [wrap64 _ (by omega) (by omega)];omega)
      |exact congrArg (fun n:Int=>D.v (.int .i64 n)) (by omega)
  ·simp only [List.length_nil,List.length_cons] at g4
   have hT3:(rowQ L (0 :: c :: r)).length=r.length+2:=by simp [rowQ]
   have hT2:(List.map rdcs (rowQ L (0 :: c :: r))).length=(rowQ L (0 :: c :: r)).length:=List.length_map ..
   have hT:(List.map rdcs (rowQ L (0 :: c :: r))).length≤62:=by omega
   refine fork (fun e4=> ?_) (fun e4=> ?_)
   ·have f21:IntKind.i64.wrap ((i:Int)+1)=((List.map rdrs L).length:Int):=ZP e4
    refine⟨by kernel_rfl,?_⟩
    refine⟨fun _=> ?_,fun e=>absurd e (by decide)⟩
    refine Zc (l:=L) (i:=i) (by first|omega|exact Nat.mod_lt _ (by omega)) fun x43 hx43=> ?_
    have hwx43:=ZY hx43
    have hzx43:=hL.2 x43 (List.mem_of_getElem? hx43)
    have hnx43:=hln _ _ hx43
    have hmx43:(List.map rd x43).length=n:=by rw [List.length_map,hnx43]
    refine k_ix i [D.list (List.map rd x43)] (by first|rfl|omega|(rw [wrap64 _ (by omega) (by omega)];omega)|(rw [wrap64 _ (by omega) (by omega)];split<;>omega)) (Zb hx43) rfl ?_
    refine Zdy (L:=L) (i:=i) (q:=x43) hwx43 hzx43 ?_
    refine⟨⟨row1 rfl,(by show ((List.map rdcs (rowQ L (0 :: c :: r))).length+1)*24≤_;omega),(by show ((List.map rdcs (rowQ L (0 :: c :: r))).length+1)≤_;omega)⟩,?_⟩
    have hI:(c :: (r++ [i]))=barI L (i+1):=Zbr g3 (by omega) (.inl (by omega))
    refine⟨(i+1,c :: (r++ [i])),⟨by omega,by omega,hI,by simp only [List.length_cons,List.length_append,List.length_nil] at g4 ⊢;omega⟩,by simp only;omega,?_⟩
    constructor<;>(repeat' (first|exact rfl|exact True.intro|apply And.intro))
    all_goals first
     |(simp [rowQ,rdcs];done)
     |exact congrArg (fun n:Int=>D.v (.int .i64 n)) (by rw [wrap64 _ (by omega) (by omega)];omega)
     |exact congrArg (fun n:Int=>D.v (.int .i64 n)) (by omega)
   ·have f21:¬ (IntKind.i64.wrap ((i:Int)+1)=((List.map rdrs L).length:Int)):=ZQ e4
    refine k_at_own' ((rowQ L (0 :: c :: r)).length - 1) (by first|rfl|omega|(rw [wrap64 _ (by omega) (by omega)];omega)|(rw [wrap64 _ (by omega) (by omega)];split<;>omega)) (by first|omega|(simp;omega)) ?_
    refine Zc (l:=(rowQ L (0 :: c :: r))) (i:=((rowQ L (0 :: c :: r)).length - 1)) (by first|omega|exact Nat.mod_lt _ (by omega)) fun x27 hx27=> ?_
    have hlx27:=ZhT hx27
    refine ZfR [D.list (List.map rdc x27)] _ (Zb hx27) rfl rfl ?_
    refine Zc (l:=L) (i:=i) (by first|omega|exact Nat.mod_lt _ (by omega)) fun x30 hx30=> ?_
    have hwx30:=ZY hx30
    have hzx30:=hL.2 x30 (List.mem_of_getElem? hx30)
    have hnx30:=hln _ _ hx30
    have hmx30:(List.map rd x30).length=n:=by rw [List.length_map,hnx30]
    refine k_ix i [D.list (List.map rd x30)] (by first|rfl|omega|(rw [wrap64 _ (by omega) (by omega)];omega)|(rw [wrap64 _ (by omega) (by omega)];split<;>omega)) (Zb hx30) rfl ?_
    refine Zc (l:=L) (i:=(i+1)) (by first|omega|exact Nat.mod_lt _ (by omega)) fun x35 hx35=> ?_
    have hwx35:=ZY hx35
    have hzx35:=hL.2 x35 (List.mem_of_getElem? hx35)
    have hnx35:=hln _ _ hx35
    have hmx35:(List.map rd x35).length=n:=by rw [List.length_map,hnx35]
    refine k_ix (i+1) [D.list (List.map rd x35)] (by first|rfl|omega|(rw [wrap64 _ (by omega) (by omega)];omega)|(rw [wrap64 _ (by omega) (by omega)];split<;>omega)) (Zb hx35) rfl ?_
    have hpl:(x27).length=n:=(by rw [hlx27];exact Zhk hln (by have:=ZoY g3 g1;omega))
    refine ZwA (p:=x27) (q:=x30) (r:=x35) (by rw [hlx27];exact gd_z hL2 _) hzx30.2 hzx35.2 (by omega) (by omega) (by omega) fun b37 hb37=> ?_
    refine⟨by kernel_rfl,?_⟩
    refine⟨fun e5=> ?_,fun e5=> ?_⟩
    ·have f39:¬ (b37=true):=fun hh=>ZbB hh (ZbZ e5)
     refine k_ix i [D.list (List.map rd x30)] (by first|rfl|omega|(rw [wrap64 _ (by omega) (by omega)];omega)|(rw [wrap64 _ (by omega) (by omega)];split<;>omega)) (Zb hx30) rfl ?_
     refine Zdy (L:=L) (i:=i) (q:=x30) hwx30 hzx30 ?_
     refine⟨⟨row1 rfl,(by show ((List.map rdcs (rowQ L (0 :: c :: r))).length+1)*24≤_;omega),(by show ((List.map rdcs (rowQ L (0 :: c :: r))).length+1)≤_;omega)⟩,?_⟩
     have hI:(c :: (r++ [i]))=barI L (i+1):=Zbr g3 (by omega) (.inr (by rw [← hlx27,hwx30,hwx35];exact Bool.eq_false_iff.2 (fun h=>f39 (hb37.trans h))))
     refine⟨(i+1,c :: (r++ [i])),⟨by omega,by omega,hI,by simp only [List.length_cons,List.length_append,List.length_nil] at g4 ⊢;omega⟩,by simp only;omega,?_⟩
     constructor<;>(repeat' (first|exact rfl|exact True.intro|apply And.intro))
     all_goals first
      |(simp [rowQ,rdcs];done)
      |exact congrArg (fun n:Int=>D.v (.int .i64 n)) (by rw [wrap64 _ (by omega) (by omega)];omega)
      |exact congrArg (fun n:Int=>D.v (.int .i64 n)) (by omega)
    ·have f39:¬ (¬ (b37=true)):=fun hh=>hh ((Zb0 e5))
     have hI:(c :: r)=barI L (i+1):=ZdN g3 (by omega) (by rw [← hlx27,hwx30,hwx35];exact(hb37.symm.trans (Classical.not_not.1 f39)))
     refine⟨(i+1,c :: r),⟨by omega,by omega,hI,by simp only [List.length_cons,List.length_append,List.length_nil] at g4 ⊢;omega⟩,by simp only;omega,?_⟩
     constructor<;>(repeat' (first|exact rfl|exact True.intro|apply And.intro))
     all_goals first
      |(simp [rowQ,rdcs];done)
      |exact congrArg (fun n:Int=>D.v (.int .i64 n)) (by rw [wrap64 _ (by omega) (by omega)];omega)
      |exact congrArg (fun n:Int=>D.v (.int .i64 n)) (by omega)
 ·have f13:¬ ((i:Int)< ((List.map rdrs L).length:Int)):=of_decide_eq_false e1
  rcases I with _|⟨c,r⟩
  ·simp only [List.length_nil,List.length_cons] at g4
   refine Eq.trans (b:= .val (.one (.d (.list ([[D.list (List.map rdc (gdL (wAt L 0)))]]))))) ?_ rfl
   have hI:barI L L.length= []:=by rw [g3,show L.length=i by omega]
   rw [hI]
   all_goals rfl
  ·simp only [List.length_nil,List.length_cons] at g4
   have hT3:(rowQ L (0 :: c :: r)).length=r.length+2:=by simp [rowQ]
   have hT2:(List.map rdcs (rowQ L (0 :: c :: r))).length=(rowQ L (0 :: c :: r)).length:=List.length_map ..
   have hT:(List.map rdcs (rowQ L (0 :: c :: r))).length≤62:=by omega
   refine Eq.trans (b:= .val (.one (.d (.list (List.map rdcs (rowQ L (0 :: c :: r))))))) ?_ rfl
   have hI:barI L L.length=(c :: r):=by rw [g3,show L.length=i by omega]
   rw [hI]
   all_goals rfl
end
end Go.Proofs.YtpfemjpgbpnpkaaGreatDoor.eng
