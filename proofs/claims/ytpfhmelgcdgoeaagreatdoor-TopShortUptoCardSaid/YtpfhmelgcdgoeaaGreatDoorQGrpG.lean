/- Joined by wip/bundle.py: XMea0 XMeaA. -/
import Derived.Test.YtpfhmelgcdgoeaaGreatDoorQGrpI
set_option maxHeartbeats 8000000
set_option maxRecDepth 100000
open List (mem_of_getElem? map length_map length_nil length_cons length_append)
namespace Go.Proofs.YtpfhmelgcdgoeaaGreatDoor.eng
open Go.RowKit num mem seg q held ratA ratB ratC ratD ratE vars ratF
def chg (L:List (List RV)) (i k:Nat):Rat:=absV (qAt (wAt L i) k - qAt (wAt L (i - 1)) k)
def rowM (L:List (List RV)) (i:Nat):Nat→Rat
 |0=>0
 |k+1=>rowM L i k+chg L i k
def allM (L:List (List RV)) (n:Nat):Nat→Rat
 |0=>0
 |i+1=>allM L n i+rowM L i n
def meaF (L:List (List RV)) (n i k:Nat):Rat:=allM L n i+rowM L i k
theorem Zvz (L:List (List RV)) (n i k:Nat):meaF L n i (k+1)=meaF L n i k+chg L i k:=by
 show allM L n i+(rowM L i k+chg L i k)=allM L n i+rowM L i k+chg L i k
 grind
theorem ZvA (L:List (List RV)) (n i:Nat):meaF L n (i+1) 0=meaF L n i n:=by
 show allM L n i+rowM L i n+0=allM L n i+rowM L i n
 grind
theorem ZjQ (L:List (List RV)):∀ k,rowM L 0 k=0
 |0=>rfl
 |k+1=>by
  show rowM L 0 k+chg L 0 k=0
  rw [ZjQ L k]
  have:chg L 0 k=0:=by
   unfold chg
   rw [show qAt (wAt L 0) k - qAt (wAt L (0 - 1)) k=0 by show qAt (wAt L 0) k - qAt (wAt L 0) k=0;grind]
   decide+kernel
  rw [this];decide+kernel
theorem ZvB (L:List (List RV)) (n:Nat):meaF L n 1 0=0:=by
 show 0+rowM L 0 n+0=0
 rw [ZjQ];decide+kernel
theorem wq_z {L:List (List RV)} (hL:∀ q,q∈L→q.length≤1048576∧∀ x,x∈q→x.z≤1048576) (i k:Nat):qs (qAt (wAt L i) k)≤1048576:=by
 unfold wAt
 cases h:L[i]? with
 |none=>exact Zr8 (fun x hx=>by simp at hx) k
 |some q=>exact Zr8 (hL q (mem_of_getElem? h)).2 k
theorem ZwV {L:List (List RV)} (hL:∀ q,q∈L→q.length≤1048576∧∀ x,x∈q→x.z≤1048576) (i k:Nat):qs (chg L i k)≤2097153:=by
 unfold chg
 rw [ZnL]
 have:=Zai (qAt (wAt L i) k) (qAt (wAt L (i - 1)) k)
 have:=wq_z hL i k
 have:=wq_z hL (i - 1) k
 omega
theorem Znr {L:List (List RV)} (hL:∀ q,q∈L→q.length≤1048576∧∀ x,x∈q→x.z≤1048576) (i:Nat):∀ k,qs (rowM L i k)≤8+k*2097154
 |0=>Nat.le_trans (show qs (0:Rat)≤8 by decide+kernel) (Nat.le_add_right _ _)
 |k+1=>by
  have h:=Znr hL i k
  have:=ZwV hL i k
  have:=Zy (rowM L i k) (chg L i k)
  show qs (rowM L i k+chg L i k)≤_
  omega
theorem ZsS {L:List (List RV)} (hL:∀ q,q∈L→q.length≤1048576∧∀ x,x∈q→x.z≤1048576) {n:Nat} (hn:n≤3):∀ i,qs (allM L n i)≤8+i*6291471
 |0=>Nat.le_trans (show qs (0:Rat)≤8 by decide+kernel) (Nat.le_add_right _ _)
 |i+1=>by
  have h:=ZsS hL hn i
  have:=Znr hL i n
  have:=Zy (allM L n i) (rowM L i n)
  show qs (allM L n i+rowM L i n)≤_
  omega
theorem Zsj {L:List (List RV)} (hL:∀ q,q∈L→q.length≤1048576∧∀ x,x∈q→x.z≤1048576) {n i k:Nat} (hn:n≤3) (hi:i≤60) (hk:k≤3):qs (meaF L n i k)≤383779748:=by
 have:=ZsS hL hn i
 have:=Znr hL i k
 have:=Zy (allM L n i) (rowM L i k)
 unfold meaF
 have h1:i*6291471≤60*6291471:=Nat.mul_le_mul_right _ hi
 have h2:k*2097154≤3*2097154:=Nat.mul_le_mul_right _ hk
 omega
def rAt (l:List Rat) (i:Nat):Rat:=(l[i]?).getD 0
theorem ZnC {l:List Rat} {i:Nat} {x:Rat} (h:l[i]? =some x):rAt l i=x:=by simp [rAt,h]
def btw (P Q R:Nat→Rat) (n:Nat):Prop:=∀ i,i< n→(∀ k,k< n→(Q i - P i)*(R k - P k)=(Q k - P k)*(R i - P i))∧¬ Q i< minQ (P i) (R i)∧¬ maxQ (P i) (R i)< Q i
section
variable {P Q R : Nat → Rat} {i n : Nat} {p : Option Rat}
def btwI (P Q R:Nat→Rat) (n i:Nat):Prop:=∀ j,j< i→(∀ k,k< n→(Q j - P j)*(R k - P k)=(Q k - P k)*(R j - P j))∧¬ Q j< minQ (P j) (R j)∧¬ maxQ (P j) (R j)< Q j
def btwK (P Q R:Nat→Rat) (i k:Nat):Prop:=∀ m,m< k→(Q i - P i)*(R m - P m)=(Q m - P m)*(R i - P i)
theorem Zws:btwI P Q R n 0:=fun j h=>ω
theorem Zwq:btwK P Q R i 0:=fun j h=>ω
theorem Zwp {k:Nat} (h:btwK P Q R i k) (e:(Q i - P i)*(R k - P k)=(Q k - P k)*(R i - P i)):btwK P Q R i (k+1):=fun m hm=>by
 by_cases g:m=k
 ·rw [g];exact e
 ·exact h m ω
theorem Zwr (h:btwI P Q R n i) (g:btwK P Q R i n) (h1:¬ Q i< minQ (P i) (R i)) (h2:¬ maxQ (P i) (R i)< Q i):btwI P Q R n (i+1):=fun j hj=>by
 by_cases e:j=i
 ·rw [e];exact⟨g,h1,h2⟩
 ·exact h j ω
theorem Zux {k:Nat} (hi:i< n) (hk:k< n) (e:¬ (Q i - P i)*(R k - P k)=(Q k - P k)*(R i - P i)):¬ btw P Q R n:=fun h=>e ((h i hi).1 k hk)
theorem Zuw (hi:i< n) (e:Q i< minQ (P i) (R i)):¬ btw P Q R n:=fun h=>(h i hi).2.1 e
theorem Zuv (hi:i< n) (e:maxQ (P i) (R i)< Q i):¬ btw P Q R n:=fun h=>(h i hi).2.2 e
end
open Classical in
noncomputable def btwB (p:List Rat) (q r:List RV):Bool:=decide (btw (rAt p) (qAt q) (qAt r) p.length)
open Classical in
theorem Zwt {p:List Rat} {q r:List RV} (h:btw (rAt p) (qAt q) (qAt r) p.length):btwB p q r=true:=by unfold btwB;exact decide_eq_true h
open Classical in
theorem ZpO {p:List Rat} {q r:List RV} (h:¬ btw (rAt p) (qAt q) (qAt r) p.length):btwB p q r=false:=by unfold btwB;exact decide_eq_false h
noncomputable def barI (L:List (List RV)):Nat→List Nat
 |0=> []
 |i+1=>bif i==0||(!(i+1==L.length)&&btwB (gdL (wAt L (((0 :: barI L i).getLast?).getD 0))) (wAt L i) (wAt L (i+1))) then barI L i else barI L i++ [i]
open trq
section
variable {K : AV → Prop}
open Classical in
noncomputable def mesV (A:ArmV) (L:List (List RV)):RV:=if chkE A L=0 then cn (meaF L A.links.length L.length 0) else z0
theorem Zoi {A:ArmV} {L:List (List RV)} (h:chkE A L=0):mesV A L=cn (meaF L A.links.length L.length 0):=if_pos h
theorem ZtD {A:ArmV} {L:List (List RV)} (h:¬ chkE A L=0):mesV A L=z0:=if_neg h
theorem Zk6 (A:ArmV) (L:List (List RV)) (hA:A.ok) (hL:L.length≤1048576∧∀ q,q∈L→q.length≤1048576∧∀ x,x∈q→x.z≤1048576):Spec Tryz.prog Tab 12 [arm A,.val (.one (.d (.list (map rdrs L))))] (.tup [.agg [Xb (mesV A L),Xs (mesV A L),Xt (mesV A L)],.one (.d (.v (.int .i64 (chkE A L))))]):=by
 have hA2:=hA
 have hLL:(map rdrs L).length=L.length:=length_map ..
 have hL1:=hL.1
 have hL2:=hL.2
 refine Za Tryz.func12 rfl rfl Tryz.ntmps12 rfl ωr rfl rfl ?_
 refine ZoI (A:=A) (L:=L) hA2 hL fun n12 hk_12_1=> ?_
 refine⟨fun e1=> ?_,fun e1=> ?_⟩
 ·have f14:n12≠0:=ZU e1
  refine Eq.trans (b:= .tup [.agg [Xb z0,Xs z0,Xt z0],.one (.d (.v (.int .i64 (n12))))]) ?_ rfl
  have hno:¬ chkE A L=0:=by rw [← hk_12_1];exact f14
  rw [ZtD hno,← hk_12_1]
  all_goals rfl
 ·have f14:¬ (n12≠0):=fun hh=>hh (ZV e1)
  have hc:chkE A L=0:=by rw [← hk_12_1];exact Classical.not_not.1 f14
  have hb:=(Zde hc).1
  have hA0:=(ZaM hb).1
  have hn0:=(ZaM hb).2.1
  have hn60:=(ZaM hb).2.2
  have hn3:=(Zad hA0).1
  obtain⟨n,hn⟩:∃ n,A.links.length=n:=⟨_,rfl⟩
  rw [hn] at hn3
  have hln:∀ (i:Nat) (x:List RV),L[i]? =some x→x.length=n:=fun i x hx=>by
   have h1:=(Zde hc).2 i (List.getElem?_eq_some_iff.1 hx).1
   rw [ZH hx] at h1
   have:=(Z3.1 h1).2
   omega
  refine k_of (0) ω ω fun q17 h17 z17=> ?_
  simp only [cn_z] at z17
  have e17:q17=meaF L n 1 0:=by rw [h17,ZvB];rfl
  refine⟨Nat,fun i=> [(1,.val (.one (.d (.list (map rdrs L))))),(4,.val (.one (.ptr 4 0))),(7,.val (.one (.ptr 7 0))),(8,int (i:Int))],
   fun i=> [(4,.var 25 [Xb z0,Xs z0,Xt z0]),(7,.var 25 [Xb (cn (meaF L n i 0)),Xs (cn (meaF L n i 0)),Xt (cn (meaF L n i 0))])],fun i=>1≤i∧i≤L.length,fun i=>L.length - i,1,?_,⟨Nat.le_refl _,ω⟩,fun i hs=> ?_⟩
  ·constructor<;>(repeat' (first|exact rfl|exact True.intro|exact⟨_,_,rfl⟩|exact ωd|apply And.intro))
   all_goals first
    |exact congrArg (fun q:Rat=>D.v (.bool (cn q).s)) e17
    |exact congrArg (fun q:Rat=>D.v (.bool (cn q).s)) e17.symm
    |exact congrArg (fun q:Rat=>D.v (.string (cn q).a)) e17
    |exact congrArg (fun q:Rat=>D.v (.string (cn q).a)) e17.symm
    |exact congrArg (fun q:Rat=>D.v (.string (cn q).d)) e17
    |exact congrArg (fun q:Rat=>D.v (.string (cn q).d)) e17.symm
    |exact ωa
    |(simp;done)
  have g1:=hs.1
  have g2:=hs.2
  refine⟨fun e2=> ?_,fun e2=> ?_⟩
  ·have f21:(i:Int)< ((map rdrs L).length:Int):=of_decide_eq_true e2
   refine get_ex (l:=L) (i:=i) ωm fun x26 hx26=> ?_
   have hwx26:=ZH hx26
   have hzx26:=hL.2 x26 (mem_of_getElem? hx26)
   have hnx26:=hln _ _ hx26
   have hmx26:(map rd x26).length=n:=by rw [length_map,hnx26]
   refine k_ix i [D.list (map rd x26)] ωf (Zc hx26) rfl ?_
   refine⟨Nat,fun k=> [(1,.val (.one (.d (.list (map rdrs L))))),(4,.val (.one (.ptr 4 0))),(7,.val (.one (.ptr 7 0))),(8,int (i:Int)),(28,int ((map rd x26).length:Int)),(29,int (k:Int))],
    fun k=> [(4,.var 25 [Xb z0,Xs z0,Xt z0]),(7,.var 25 [Xb (cn (meaF L n i k)),Xs (cn (meaF L n i k)),Xt (cn (meaF L n i k))])],fun k=>k≤n,fun k=>n - k,0,?_,Nat.zero_le _,fun k hs=> ?_⟩
   ·exact ωe
   have hmz:=Zsj hL2 hn3 (i:=i) (k:=k) ω ω
   refine⟨fun e3=> ?_,fun e3=> ?_⟩
   ·have f30:(k:Int)< ((map rd x26).length:Int):=of_decide_eq_true e3
    refine k_ix i [D.list (map rd x26)] ωf (Zc hx26) rfl ?_
    refine get_ex (l:=x26) (i:=k) ωm fun x38 hx38=> ?_
    have hzx38:=hzx26.2 x38 (mem_of_getElem? hx38)
    have hqx38:=ZbG hx38
    refine k_ix k [Yb x38,Ys x38,Yt x38] ωf (Zc hx38) rfl ?_
    refine get_ex (l:=L) (i:=(i - 1)) ωm fun x43 hx43=> ?_
    have hwx43:=ZH hx43
    have hzx43:=hL.2 x43 (mem_of_getElem? hx43)
    have hnx43:=hln _ _ hx43
    have hmx43:(map rd x43).length=n:=by rw [length_map,hnx43]
    refine k_ix (i - 1) [D.list (map rd x43)] ωf (Zc hx43) rfl ?_
    refine get_ex (l:=x43) (i:=k) ωm fun x46 hx46=> ?_
    have hzx46:=hzx43.2 x46 (mem_of_getElem? hx46)
    have hqx46:=ZbG hx46
    refine k_ix k [Yb x46,Ys x46,Yt x46] ωf (Zc hx46) rfl ?_
    refine Zak (x:=x38) (y:=x46) ω ω fun q48 h48 z48=> ?_
    simp only [cn_z] at z48
    refine Zky (x:=cn q48) ωz (fun q49 hk_49_1 hk_49_2=> ?_)
    try simp only [cn_q] at hk_49_1
    simp only [cn_z] at hk_49_2
    refine ZaH (x:=cn (meaF L n i k)) (y:=cn q49) ωz ωz fun q50 h50 z50=> ?_
    simp only [cn_z] at z50
    simp only [cn_q] at h50
    refine⟨ωr,?_⟩
    have e50:q50=meaF L n i (k+1):=by
     rw [Zvz,h50,hk_49_1,h48,← hqx38,← hqx46,← hwx26,← hwx43];rfl
    refine⟨(k+1),ω,by simp only;omega,?_⟩
    constructor<;>(repeat' (first|exact rfl|exact True.intro|apply And.intro))
    all_goals first
     |exact congrArg (fun q:Rat=>D.v (.bool (cn q).s)) e50
     |exact congrArg (fun q:Rat=>D.v (.bool (cn q).s)) e50.symm
     |exact congrArg (fun q:Rat=>D.v (.string (cn q).a)) e50
     |exact congrArg (fun q:Rat=>D.v (.string (cn q).a)) e50.symm
     |exact congrArg (fun q:Rat=>D.v (.string (cn q).d)) e50
     |exact congrArg (fun q:Rat=>D.v (.string (cn q).d)) e50.symm
     |exact ωb
     |exact ωa
   ·have f30:¬ ((k:Int)< ((map rd x26).length:Int)):=of_decide_eq_false e3
    have ei:meaF L n i k=meaF L n (i+1) 0:=by rw [ZvA,show k=n by omega]
    refine⟨i+1,⟨ω,ω⟩,by simp only;omega,?_⟩
    constructor<;>(repeat' (first|exact rfl|exact True.intro|apply And.intro))
    all_goals first
     |exact congrArg (fun q:Rat=>D.v (.bool (cn q).s)) ei
     |exact congrArg (fun q:Rat=>D.v (.bool (cn q).s)) ei.symm
     |exact congrArg (fun q:Rat=>D.v (.string (cn q).a)) ei
     |exact congrArg (fun q:Rat=>D.v (.string (cn q).a)) ei.symm
     |exact congrArg (fun q:Rat=>D.v (.string (cn q).d)) ei
     |exact congrArg (fun q:Rat=>D.v (.string (cn q).d)) ei.symm
     |exact ωb
     |exact ωa
  ·have f21:¬ ((i:Int)< ((map rdrs L).length:Int)):=of_decide_eq_false e2
   refine Eq.trans (b:= .tup [.agg [Xb (cn (meaF L n i 0)),Xs (cn (meaF L n i 0)),Xt (cn (meaF L n i 0))],.one (.d (.v (.int .i64 (0))))]) ?_ rfl
   have hi:i=L.length:=ω
   rw [Zoi hc,hc,hn,← hi]
   all_goals rfl
theorem ZrA (p:List Rat) (q r:List RV) (hp:∀ x,x∈p→qs x≤2097152) (hq:∀ x,x∈q→x.z≤1048576) (hr:∀ x,x∈r→x.z≤1048576) (hlq:q.length=p.length) (hlr:r.length=p.length) (hn:p.length≤1048576):Spec Tryz.prog Tab 27 [.val (.one (.d (.list (map rdc p)))),.val (.one (.d (.list (map rd q)))),.val (.one (.d (.list (map rd r))))] (bool (btwB p q r)):=by
 have hLp:(map rdc p).length=p.length:=length_map ..
 have hLq:(map rd q).length=q.length:=length_map ..
 have hLr:(map rd r).length=r.length:=length_map ..
 refine Za Tryz.func27 rfl rfl Tryz.ntmps27 rfl ωr rfl rfl ?_
 refine⟨Nat,fun i=> [(0,.val (.one (.d (.list (map rdc p))))),(1,.val (.one (.d (.list (map rd q))))),(2,.val (.one (.d (.list (map rd r))))),(12,int ((map rdc p).length:Int)),(13,int (i:Int))],
  fun i=> [],fun i=>i≤p.length∧btwI (rAt p) (qAt q) (qAt r) p.length i,fun i=>p.length - i,0,?_,⟨Nat.zero_le _,Zws⟩,fun i hs=> ?_⟩
 ·exact ωe
 have g1:=hs.1
 have g2:=hs.2
 refine⟨fun e1=> ?_,fun e1=> ?_⟩
 ·have f14:(i:Int)< ((map rdc p).length:Int):=of_decide_eq_true e1
  refine⟨Nat,fun k=> [(0,.val (.one (.d (.list (map rdc p))))),(1,.val (.one (.d (.list (map rd q))))),(2,.val (.one (.d (.list (map rd r))))),(7,int (i:Int)),(12,int ((map rdc p).length:Int)),(13,int (i:Int)),(17,int ((map rdc p).length:Int)),(18,int (k:Int))],
   fun k=> [],fun k=>k≤p.length∧btwK (rAt p) (qAt q) (qAt r) i k,fun k=>p.length - k,0,?_,⟨Nat.zero_le _,Zwq⟩,fun k hs=> ?_⟩
  ·exact ωe
  have g3:=hs.1
  have g4:=hs.2
  refine⟨fun e2=> ?_,fun e2=> ?_⟩
  ·have f19:(k:Int)< ((map rdc p).length:Int):=of_decide_eq_true e2
   refine get_ex (l:=q) (i:=i) ωm fun x23 hx23=> ?_
   have hzx23:=hq x23 (mem_of_getElem? hx23)
   have hqx23:=ZbG hx23
   refine k_ix i [Yb x23,Ys x23,Yt x23] ωf (Zc hx23) rfl ?_
   refine get_ex (l:=p) (i:=i) ωm fun x27 hx27=> ?_
   have hzx27:=hp x27 (mem_of_getElem? hx27)
   have hqx27:=ZnC hx27
   refine k_ix i [Yb (cn x27),Ys (cn x27),Yt (cn x27)] ωf (Zc hx27) rfl ?_
   refine Zak (x:=x23) (y:=cn x27) ω ωz fun q29 h29 z29=> ?_
   simp only [cn_z] at z29
   simp only [cn_q] at h29
   refine get_ex (l:=r) (i:=k) ωm fun x32 hx32=> ?_
   have hzx32:=hr x32 (mem_of_getElem? hx32)
   have hqx32:=ZbG hx32
   refine k_ix k [Yb x32,Ys x32,Yt x32] ωf (Zc hx32) rfl ?_
   refine get_ex (l:=p) (i:=k) ωm fun x36 hx36=> ?_
   have hzx36:=hp x36 (mem_of_getElem? hx36)
   have hqx36:=ZnC hx36
   refine k_ix k [Yb (cn x36),Ys (cn x36),Yt (cn x36)] ωf (Zc hx36) rfl ?_
   refine Zak (x:=x32) (y:=cn x36) ω ωz fun q38 h38 z38=> ?_
   simp only [cn_z] at z38
   simp only [cn_q] at h38
   refine Z1 (x:=cn q29) (y:=cn q38) ωz ωz fun q39 h39 z39=> ?_
   simp only [cn_z] at z39
   simp only [cn_q] at h39
   refine⟨ωr,?_⟩
   refine get_ex (l:=q) (i:=k) ωm fun x42 hx42=> ?_
   have hzx42:=hq x42 (mem_of_getElem? hx42)
   have hqx42:=ZbG hx42
   refine k_ix k [Yb x42,Ys x42,Yt x42] ωf (Zc hx42) rfl ?_
   refine k_ix k [Yb (cn x36),Ys (cn x36),Yt (cn x36)] ωf (Zc hx36) rfl ?_
   refine Zak (x:=x42) (y:=cn x36) ω ωz fun q48 h48 z48=> ?_
   simp only [cn_z] at z48
   simp only [cn_q] at h48
   refine get_ex (l:=r) (i:=i) ωm fun x51 hx51=> ?_
   have hzx51:=hr x51 (mem_of_getElem? hx51)
   have hqx51:=ZbG hx51
   refine k_ix i [Yb x51,Ys x51,Yt x51] ωf (Zc hx51) rfl ?_
   refine k_ix i [Yb (cn x27),Ys (cn x27),Yt (cn x27)] ωf (Zc hx27) rfl ?_
   refine Zak (x:=x51) (y:=cn x27) ω ωz fun q57 h57 z57=> ?_
   simp only [cn_z] at z57
   simp only [cn_q] at h57
   refine Z1 (x:=cn q48) (y:=cn q57) ωz ωz fun q58 h58 z58=> ?_
   simp only [cn_z] at z58
   simp only [cn_q] at h58
   refine⟨ωr,?_⟩
   refine Za9 (x:=cn q39) (y:=cn q58) ωz ωz fun n61 h61=> ?_
   simp only [cn_q] at h61
   refine⟨fun e3=> ?_,fun e3=> ?_⟩
   ·have f62:¬ q39=q58:=fun hh=>ZU e3 ((Zwg h61).2 hh)
    refine Eq.trans (b:=bool false) ?_ rfl
    rw [ZpO (Zux (i:=i) (k:=k) ω ω (by rw [hqx23,hqx27,hqx32,hqx36,hqx42,hqx51,← h29,← h38,← h48,← h57,← h39,← h58];exact f62))]
    all_goals rfl
   ·have f62:¬ (¬ q39=q58):=fun hh=>hh ((Zwg h61).1 (ZV e3))
    refine⟨(k+1),⟨ω,Zwp g4 (by rw [hqx23,hqx27,hqx32,hqx36,hqx42,hqx51,← h29,← h38,← h48,← h57,← h39,← h58];exact Classical.not_not.1 f62)⟩,by simp only;omega,?_⟩
    constructor<;>(repeat' (first|exact rfl|exact True.intro|apply And.intro))
    all_goals first
     |exact ωb
     |exact ωa
  ·have f19:¬ ((k:Int)< ((map rdc p).length:Int)):=of_decide_eq_false e2
   refine get_ex (l:=q) (i:=i) ωm fun x66 hx66=> ?_
   have hzx66:=hq x66 (mem_of_getElem? hx66)
   have hqx66:=ZbG hx66
   refine k_ix i [Yb x66,Ys x66,Yt x66] ωf (Zc hx66) rfl ?_
   refine get_ex (l:=p) (i:=i) ωm fun x70 hx70=> ?_
   have hzx70:=hp x70 (mem_of_getElem? hx70)
   have hqx70:=ZnC hx70
   refine k_ix i [Yb (cn x70),Ys (cn x70),Yt (cn x70)] ωf (Zc hx70) rfl ?_
   refine get_ex (l:=r) (i:=i) ωm fun x74 hx74=> ?_
   have hzx74:=hr x74 (mem_of_getElem? hx74)
   have hqx74:=ZbG hx74
   refine k_ix i [Yb x74,Ys x74,Yt x74] ωf (Zc hx74) rfl ?_
   refine Zht (x:=cn x70) (y:=x74) ωz ω fun q76 h76 z76=> ?_
   simp only [cn_z] at z76
   simp only [cn_q] at h76
   refine Za9 (x:=x66) (y:=cn q76) ω ωz fun n77 h77=> ?_
   simp only [cn_q] at h77
   refine fork (fun e4=> ?_) (fun e4=> ?_)
   ·have f79:x66.q< q76:=(Zrs h77).1 (of_decide_eq_true e4)
    refine⟨ωr,?_⟩
    refine⟨fun _=> ?_,fun e=>absurd e ωd⟩
    refine Eq.trans (b:=bool false) ?_ rfl
    rw [ZpO (Zuw (i:=i) ω (by rw [hqx66,hqx70,hqx74,← h76];exact f79))]
    all_goals rfl
   ·have f79:¬ (x66.q< q76):=fun hh=>of_decide_eq_false e4 ((Zrs h77).2 hh)
    refine k_ix i [Yb x66,Ys x66,Yt x66] ωf (Zc hx66) rfl ?_
    refine k_ix i [Yb (cn x70),Ys (cn x70),Yt (cn x70)] ωf (Zc hx70) rfl ?_
    refine k_ix i [Yb x74,Ys x74,Yt x74] ωf (Zc hx74) rfl ?_
    refine Zhu (x:=cn x70) (y:=x74) ωz ω fun q92 h92 z92=> ?_
    simp only [cn_z] at z92
    simp only [cn_q] at h92
    refine Za9 (x:=x66) (y:=cn q92) ω ωz fun n93 h93=> ?_
    simp only [cn_q] at h93
    refine⟨ωr,?_⟩
    refine⟨fun e5=> ?_,fun e5=> ?_⟩
    ·have f95:q92< x66.q:=(ZeU h93).1 (of_decide_eq_true e5)
     refine Eq.trans (b:=bool false) ?_ rfl
     rw [ZpO (Zuv (i:=i) ω (by rw [hqx66,hqx70,hqx74,← h92];exact f95))]
     all_goals rfl
    ·have f95:¬ (q92< x66.q):=fun hh=>of_decide_eq_false e5 ((ZeU h93).2 hh)
     refine⟨i+1,⟨ω,Zwr g2 (by rw [← show k=p.length by omega];exact g4) (by rw [hqx66,hqx70,hqx74,← h76];exact f79) (by rw [hqx66,hqx70,hqx74,← h92];exact f95)⟩,by simp only;omega,?_⟩
     constructor<;>(repeat' (first|exact rfl|exact True.intro|apply And.intro))
     all_goals first
      |exact ωb
      |exact ωa
 ·have f14:¬ ((i:Int)< ((map rdc p).length:Int)):=of_decide_eq_false e1
  refine Eq.trans (b:=bool true) ?_ rfl
  rw [Zwt fun j hj=>g2 j ω]
  all_goals rfl
theorem Zv4 {p:List Rat} {q r:List RV} (hp:∀ x,x∈p→qs x≤2097152) (hq:∀ x,x∈q→x.z≤1048576) (hr:∀ x,x∈r→x.z≤1048576) (hlq:q.length=p.length) (hlr:r.length=p.length) (hn:p.length≤1048576) (k:∀ b,b=btwB p q r→K (bool b)):Ask 27 [.val (.one (.d (.list (map rdc p)))),.val (.one (.d (.list (map rd q)))),.val (.one (.d (.list (map rd r))))] K:=use (ZrA p q r hp hq hr hlq hlr hn) rfl (k _ rfl)
open Classical in
noncomputable def spnV (A:ArmV) (L:List (List RV)):List (List Rat):=if chkE A L=0 then rowQ L (0 :: barI L L.length) else []
theorem Zib {A:ArmV} {L:List (List RV)} (h:chkE A L=0):spnV A L=rowQ L (0 :: barI L L.length):=if_pos h
theorem Zs4 {A:ArmV} {L:List (List RV)} (h:¬ chkE A L=0):spnV A L= []:=if_neg h
theorem ZdO {L:List (List RV)} {i:Nat} {I:List Nat} (hI:I=barI L i) (h1:1≤i) (h:i+1=L.length∨btwB (gdL (wAt L (((0 :: I).getLast?).getD 0))) (wAt L i) (wAt L (i+1))=false):I++ [i]=barI L (i+1):=by
 subst hI
 show _=bif _ then _ else _
 have e:(i==0||(!(i+1==L.length)&&btwB (gdL (wAt L (((0 :: barI L i).getLast?).getD 0))) (wAt L i) (wAt L (i+1))))=false:=by
  have:(i==0)=false:=by rw [beq_eq_false_iff_ne];omega
  rw [this]
  rcases h with h|h
  ·rw [h];simp
  ·rw [h];simp
 rw [e];rfl
theorem ZhR {L:List (List RV)} {i:Nat} {I:List Nat} (hI:I=barI L i) (h2:¬ i+1=L.length) (h:btwB (gdL (wAt L (((0 :: I).getLast?).getD 0))) (wAt L i) (wAt L (i+1))=true):I=barI L (i+1):=by
 subst hI
 show _=bif _ then _ else _
 have e:(i==0||(!(i+1==L.length)&&btwB (gdL (wAt L (((0 :: barI L i).getLast?).getD 0))) (wAt L i) (wAt L (i+1))))=true:=by
  have:(i+1==L.length)=false:=by rw [beq_eq_false_iff_ne];exact h2
  rw [this,h];simp
 rw [e];rfl
theorem Znq {L:List (List RV)} {J:List Nat} {x:List Rat} (h:(rowQ L J)[(rowQ L J).length - 1]? =some x):x=gdL (wAt L ((J.getLast?).getD 0)):=by
 unfold rowQ at h
 rw [List.getElem?_map,length_map,← List.getLast?_eq_getElem?] at h
 cases e:J.getLast? with
 |none=>rw [e] at h;simp at h
 |some j=>rw [e] at h;exact(Option.some.inj h).symm
theorem gd_z {L:List (List RV)} (hL:∀ q,q∈L→q.length≤1048576∧∀ x,x∈q→x.z≤1048576) (i:Nat):∀ x,x∈gdL (wAt L i)→qs x≤2097152:=by
 intro x hx
 unfold wAt at hx
 cases e:L[i]? with
 |none=>rw [e] at hx;simp [gdL] at hx
 |some q=>
  rw [e] at hx
  obtain⟨y,hy,rfl⟩:=List.mem_map.1 hx
  have:=(hL q (mem_of_getElem? e)).2 y hy
  have:=y.z1
  omega
theorem Zjf {L:List (List RV)}:∀ {i j:Nat},j∈barI L i→j< i
 |0,j,h=>by simp [barI] at h
 |i+1,j,h=>by
  unfold barI at h
  cases e:(i==0||(!(i+1==L.length)&&btwB (gdL (wAt L (((0 :: barI L i).getLast?).getD 0))) (wAt L i) (wAt L (i+1)))) with
  |true=>
   rw [e] at h
   have:=Zjf (show j∈barI L i from h)
   omega
  |false=>
   rw [e] at h
   rcases List.mem_append.1 h with h|h
   ·have:=Zjf h
    omega
   ·have:j=i:=by simpa using h
    omega
theorem ZtG {L:List (List RV)} {i:Nat} {I:List Nat} (hI:I=barI L i) (h:1≤i):((0 :: I).getLast?).getD 0< i:=by
 have hm:((0 :: I).getLast?).getD 0∈0 :: I:=by
  rw [List.getLast?_cons,Option.getD_some]
  cases e:I.getLast? with
  |none=>simp
  |some j=>exact List.mem_cons_of_mem _ (List.mem_of_getLast? e)
 rcases List.mem_cons.1 hm with e|e
 ·omega
 ·rw [hI] at e ⊢;exact Zjf e
theorem Zo4 {L:List (List RV)} {n j:Nat} (hln:∀ (i:Nat) (x:List RV),L[i]? =some x→x.length=n) (h:j< L.length):(gdL (wAt L j)).length=n:=by
 rw [ZiZ,ZH (List.getElem?_eq_getElem h)]
 exact hln j _ (List.getElem?_eq_getElem h)
theorem ZrI (A:ArmV) (L:List (List RV)) (hA:A.ok) (hL:L.length≤1048576∧∀ q,q∈L→q.length≤1048576∧∀ x,x∈q→x.z≤1048576):Spec Tryz.prog Tab 10 [arm A,.val (.one (.d (.list (map rdrs L))))] (.tup [.one (.d (.list (map rdcs (spnV A L)))),.one (.d (.v (.int .i64 (chkE A L))))]):=by
 have hA2:=hA
 have hLL:(map rdrs L).length=L.length:=length_map ..
 have hL1:=hL.1
 have hL2:=hL.2
 refine Za Tryz.func10 rfl rfl Tryz.ntmps10 rfl ωr rfl rfl ?_
 refine ZoI (A:=A) (L:=L) hA2 hL fun n11 hk_11_1=> ?_
 refine⟨fun e1=> ?_,fun e1=> ?_⟩
 ·have f13:n11≠0:=ZU e1
  refine Eq.trans (b:= .tup [.one (.d (.list ([]))),.one (.d (.v (.int .i64 (n11))))]) ?_ rfl
  have hno:¬ chkE A L=0:=by rw [← hk_11_1];exact f13
  rw [Zs4 hno,← hk_11_1]
  all_goals rfl
 ·have f13:¬ (n11≠0):=fun hh=>hh (ZV e1)
  have hc:chkE A L=0:=by rw [← hk_11_1];exact Classical.not_not.1 f13
  have hb:=(Zde hc).1
  have hA0:=(ZaM hb).1
  have hn0:=(ZaM hb).2.1
  have hn60:=(ZaM hb).2.2
  have hn3:=(Zad hA0).1
  obtain⟨n,hn⟩:∃ n,A.links.length=n:=⟨_,rfl⟩
  rw [hn] at hn3
  have hln:∀ (i:Nat) (x:List RV),L[i]? =some x→x.length=n:=fun i x hx=>by
   have h1:=(Zde hc).2 i (List.getElem?_eq_some_iff.1 hx).1
   rw [ZH hx] at h1
   have:=(Z3.1 h1).2
   omega
  refine get_ex (l:=L) (i:=0) ωm fun x16 hx16=> ?_
  have hwx16:=ZH hx16
  have hzx16:=hL.2 x16 (mem_of_getElem? hx16)
  have hnx16:=hln _ _ hx16
  have hmx16:(map rd x16).length=n:=by rw [length_map,hnx16]
  refine k_ix 0 [D.list (map rd x16)] ωf (Zc hx16) rfl ?_
  refine Za8 (L:=L) (i:=0) (q:=x16) hwx16 hzx16 ?_
  refine⟨Nat×List Nat,fun (i,I)=> [(1,.val (.one (.d (.list (map rdrs L))))),(7,trAV 57 L I),(8,int (i:Int))],
   fun (i,I)=> []++trOb 57 L I,fun (i,I)=>1≤i∧i≤L.length∧I=barI L i∧I.length≤i,fun (i,I)=>L.length - i,(1, []),?_,⟨Nat.le_refl _,ω,rfl,by simp⟩,fun s hs=> ?_⟩
  ·exact ωe
  obtain⟨i,I⟩:=s
  obtain⟨g1,g2,g3,g4⟩:=hs
  try simp only at g1 g2 g3 g4
  refine⟨fun e2=> ?_,fun e2=> ?_⟩
  ·have f23:(i:Int)< ((map rdrs L).length:Int):=of_decide_eq_true e2
   have hwl:IntKind.i64.wrap (((map rdrs L).length:Int) - 1)=((L.length - 1:Nat):Int):=by rw [wrap64 _ ω ω];omega
   have hwi:IntKind.i64.wrap ((i:Int)+1)=(i:Int)+1:=wrap64 _ ω ω
   rcases I with _|⟨c,r⟩
   ·simp only [length_nil,length_cons] at g4
    refine fork (fun e3=> ?_) (fun e3=> ?_)
    ·have f31:(i:Int)=IntKind.i64.wrap (((map rdrs L).length:Int) - 1):=ZB e3
     refine⟨ωr,?_⟩
     refine⟨fun _=> ?_,fun e=>absurd e ωd⟩
     refine get_ex (l:=L) (i:=i) ωm fun x53 hx53=> ?_
     have hwx53:=ZH hx53
     have hzx53:=hL.2 x53 (mem_of_getElem? hx53)
     have hnx53:=hln _ _ hx53
     have hmx53:(map rd x53).length=n:=by rw [length_map,hnx53]
     refine k_ix i [D.list (map rd x53)] ωf (Zc hx53) rfl ?_
     refine Za8 (L:=L) (i:=i) (q:=x53) hwx53 hzx53 ?_
     refine⟨⟨Nat.zero_lt_succ _,row1 rfl,row1 rfl,(by show (1+1)*24≤_;omega),(by show 1+1≤_;omega)⟩,?_⟩
     have hI: [i]=barI L (i+1):=ZdO g3 ω (.inl ω)
     refine⟨(i+1, [i]),⟨ω,ω,hI,by simp only [length_cons,length_append,length_nil] at g4 ⊢;omega⟩,by simp only;omega,?_⟩
     constructor<;>(repeat' (first|exact rfl|exact True.intro|apply And.intro))
     all_goals first
      |(simp [rowQ,rdcs];done)
      |exact ωb
      |exact ωa
    ·have f31:¬ ((i:Int)=IntKind.i64.wrap (((map rdrs L).length:Int) - 1)):=ZC e3
     refine k_ix 0 [D.list (map rdc (gdL (wAt L 0)))] ωf rfl rfl ?_
     refine get_ex (l:=L) (i:=i) ωm fun x40 hx40=> ?_
     have hwx40:=ZH hx40
     have hzx40:=hL.2 x40 (mem_of_getElem? hx40)
     have hnx40:=hln _ _ hx40
     have hmx40:(map rd x40).length=n:=by rw [length_map,hnx40]
     refine k_ix i [D.list (map rd x40)] ωf (Zc hx40) rfl ?_
     refine get_ex (l:=L) (i:=(i+1)) ωm fun x45 hx45=> ?_
     have hwx45:=ZH hx45
     have hzx45:=hL.2 x45 (mem_of_getElem? hx45)
     have hnx45:=hln _ _ hx45
     have hmx45:(map rd x45).length=n:=by rw [length_map,hnx45]
     refine k_ix (i+1) [D.list (map rd x45)] ωf (Zc hx45) rfl ?_
     have hpl:(gdL (wAt L 0)).length=n:=(Zo4 hln ω)
     refine Zv4 (p:=gdL (wAt L 0)) (q:=x40) (r:=x45) (gd_z hL2 _) hzx40.2 hzx45.2 ω ω ω fun b47 hb47=> ?_
     refine⟨ωr,?_⟩
     refine⟨fun e4=> ?_,fun e4=> ?_⟩
     ·have f49:¬ (b47=true):=fun hh=>Zct hh (Zcd e4)
      refine k_ix i [D.list (map rd x40)] ωf (Zc hx40) rfl ?_
      refine Za8 (L:=L) (i:=i) (q:=x40) hwx40 hzx40 ?_
      refine⟨⟨Nat.zero_lt_succ _,row1 rfl,row1 rfl,(by show (1+1)*24≤_;omega),(by show 1+1≤_;omega)⟩,?_⟩
      have hI: [i]=barI L (i+1):=ZdO g3 ω (.inr (by rw [hwx40,hwx45];exact Bool.eq_false_iff.2 (fun h=>f49 (hb47.trans h))))
      refine⟨(i+1, [i]),⟨ω,ω,hI,by simp only [length_cons,length_append,length_nil] at g4 ⊢;omega⟩,by simp only;omega,?_⟩
      constructor<;>(repeat' (first|exact rfl|exact True.intro|apply And.intro))
      all_goals first
       |(simp [rowQ,rdcs];done)
       |exact ωb
       |exact ωa
     ·have f49:¬ (¬ (b47=true)):=fun hh=>hh ((Zce e4))
      have hI: []=barI L (i+1):=ZhR g3 ω (by rw [hwx40,hwx45];exact(hb47.symm.trans (Classical.not_not.1 f49)))
      refine⟨(i+1, []),⟨ω,ω,hI,by simp only [length_cons,length_append,length_nil] at g4 ⊢;omega⟩,by simp only;omega,?_⟩
      constructor<;>(repeat' (first|exact rfl|exact True.intro|apply And.intro))
      all_goals first
       |(simp [rowQ,rdcs];done)
       |exact ωb
       |exact ωa
   ·simp only [length_nil,length_cons] at g4
    have hT3:(rowQ L (0 :: c :: r)).length=r.length+2:=by simp [rowQ]
    have hT2:(map rdcs (rowQ L (0 :: c :: r))).length=(rowQ L (0 :: c :: r)).length:=length_map ..
    have hT:(map rdcs (rowQ L (0 :: c :: r))).length≤62:=ω
    refine fork (fun e5=> ?_) (fun e5=> ?_)
    ·have f31:(i:Int)=IntKind.i64.wrap (((map rdrs L).length:Int) - 1):=ZB e5
     refine⟨ωr,?_⟩
     refine⟨fun _=> ?_,fun e=>absurd e ωd⟩
     refine get_ex (l:=L) (i:=i) ωm fun x53 hx53=> ?_
     have hwx53:=ZH hx53
     have hzx53:=hL.2 x53 (mem_of_getElem? hx53)
     have hnx53:=hln _ _ hx53
     have hmx53:(map rd x53).length=n:=by rw [length_map,hnx53]
     refine k_ix i [D.list (map rd x53)] ωf (Zc hx53) rfl ?_
     refine Za8 (L:=L) (i:=i) (q:=x53) hwx53 hzx53 ?_
     refine⟨⟨row1 rfl,(by show ((map rdcs (rowQ L (0 :: c :: r))).length+1)*24≤_;omega),(by show ((map rdcs (rowQ L (0 :: c :: r))).length+1)≤_;omega)⟩,?_⟩
     have hI:(c :: (r++ [i]))=barI L (i+1):=ZdO g3 ω (.inl ω)
     refine⟨(i+1,c :: (r++ [i])),⟨ω,ω,hI,by simp only [length_cons,length_append,length_nil] at g4 ⊢;omega⟩,by simp only;omega,?_⟩
     constructor<;>(repeat' (first|exact rfl|exact True.intro|apply And.intro))
     all_goals first
      |(simp [rowQ,rdcs];done)
      |exact ωb
      |exact ωa
    ·have f31:¬ ((i:Int)=IntKind.i64.wrap (((map rdrs L).length:Int) - 1)):=ZC e5
     refine k_at_own' ((rowQ L (0 :: c :: r)).length - 1) ωf (by first|omega|(simp;omega)) ?_
     refine get_ex (l:=(rowQ L (0 :: c :: r))) (i:=((rowQ L (0 :: c :: r)).length - 1)) ωm fun x37 hx37=> ?_
     have hlx37:=Znq hx37
     refine Zbs [D.list (map rdc x37)] _ (Zc hx37) rfl rfl ?_
     refine get_ex (l:=L) (i:=i) ωm fun x40 hx40=> ?_
     have hwx40:=ZH hx40
     have hzx40:=hL.2 x40 (mem_of_getElem? hx40)
     have hnx40:=hln _ _ hx40
     have hmx40:(map rd x40).length=n:=by rw [length_map,hnx40]
     refine k_ix i [D.list (map rd x40)] ωf (Zc hx40) rfl ?_
     refine get_ex (l:=L) (i:=(i+1)) ωm fun x45 hx45=> ?_
     have hwx45:=ZH hx45
     have hzx45:=hL.2 x45 (mem_of_getElem? hx45)
     have hnx45:=hln _ _ hx45
     have hmx45:(map rd x45).length=n:=by rw [length_map,hnx45]
     refine k_ix (i+1) [D.list (map rd x45)] ωf (Zc hx45) rfl ?_
     have hpl:(x37).length=n:=(by rw [hlx37];exact Zo4 hln (by have:=ZtG g3 g1;omega))
     refine Zv4 (p:=x37) (q:=x40) (r:=x45) (by rw [hlx37];exact gd_z hL2 _) hzx40.2 hzx45.2 ω ω ω fun b47 hb47=> ?_
     refine⟨ωr,?_⟩
     refine⟨fun e6=> ?_,fun e6=> ?_⟩
     ·have f49:¬ (b47=true):=fun hh=>Zct hh (Zcd e6)
      refine k_ix i [D.list (map rd x40)] ωf (Zc hx40) rfl ?_
      refine Za8 (L:=L) (i:=i) (q:=x40) hwx40 hzx40 ?_
      refine⟨⟨row1 rfl,(by show ((map rdcs (rowQ L (0 :: c :: r))).length+1)*24≤_;omega),(by show ((map rdcs (rowQ L (0 :: c :: r))).length+1)≤_;omega)⟩,?_⟩
      have hI:(c :: (r++ [i]))=barI L (i+1):=ZdO g3 ω (.inr (by rw [← hlx37,hwx40,hwx45];exact Bool.eq_false_iff.2 (fun h=>f49 (hb47.trans h))))
      refine⟨(i+1,c :: (r++ [i])),⟨ω,ω,hI,by simp only [length_cons,length_append,length_nil] at g4 ⊢;omega⟩,by simp only;omega,?_⟩
      constructor<;>(repeat' (first|exact rfl|exact True.intro|apply And.intro))
      all_goals first
       |(simp [rowQ,rdcs];done)
       |exact ωb
       |exact ωa
     ·have f49:¬ (¬ (b47=true)):=fun hh=>hh ((Zce e6))
      have hI:(c :: r)=barI L (i+1):=ZhR g3 ω (by rw [← hlx37,hwx40,hwx45];exact(hb47.symm.trans (Classical.not_not.1 f49)))
      refine⟨(i+1,c :: r),⟨ω,ω,hI,by simp only [length_cons,length_append,length_nil] at g4 ⊢;omega⟩,by simp only;omega,?_⟩
      constructor<;>(repeat' (first|exact rfl|exact True.intro|apply And.intro))
      all_goals first
       |(simp [rowQ,rdcs];done)
       |exact ωb
       |exact ωa
  ·have f23:¬ ((i:Int)< ((map rdrs L).length:Int)):=of_decide_eq_false e2
   rcases I with _|⟨c,r⟩
   ·simp only [length_nil,length_cons] at g4
    refine Eq.trans (b:= .tup [.one (.d (.list ([[D.list (map rdc (gdL (wAt L 0)))]]))),.one (.d (.v (.int .i64 (0))))]) ?_ rfl
    have hI:barI L L.length= []:=by rw [g3,show L.length=i by omega]
    rw [Zib hc,hc,hI]
    all_goals rfl
   ·simp only [length_nil,length_cons] at g4
    have hT3:(rowQ L (0 :: c :: r)).length=r.length+2:=by simp [rowQ]
    have hT2:(map rdcs (rowQ L (0 :: c :: r))).length=(rowQ L (0 :: c :: r)).length:=length_map ..
    have hT:(map rdcs (rowQ L (0 :: c :: r))).length≤62:=ω
    refine Eq.trans (b:= .tup [.one (.d (.list (map rdcs (rowQ L (0 :: c :: r))))),.one (.d (.v (.int .i64 (0))))]) ?_ rfl
    have hI:barI L L.length=(c :: r):=by rw [g3,show L.length=i by omega]
    rw [Zib hc,hc,hI]
    all_goals rfl
end
