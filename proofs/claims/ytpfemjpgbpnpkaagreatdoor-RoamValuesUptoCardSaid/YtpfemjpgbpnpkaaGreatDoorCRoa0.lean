/- Plain law: spots of a grid of configurations: values, the nearest spot. No program. -/
import Derived.Test.YtpfemjpgbpnpkaaGreatDoorCSayA
import Derived.Test.YtpfemjpgbpnpkaaGreatDoorCEngGrid
import Derived.Test.YtpfemjpgbpnpkaaGreatDoorCGrpL
namespace Go.Proofs.YtpfemjpgbpnpkaaGreatDoor.eng
open Go.RowKit num mem seg q held ratA ratB ratC ratD ratE vars ratF trq
def intD (n:Int):List D:= [.v (.int .i64 n)]
def hfQ:Rat:=((1:Int):Rat) / ((2:Int):Rat)
def bst (d:Nat→Rat):Nat→Nat×Rat
 |0=>(0,0)
 |j+1=>if j=0∨d j< (bst d j).2 then (j,d j) else bst d j
section
variable {d : Nat → Rat}
theorem ZeJ {j:Nat} (h:j=0∨d j< (bst d j).2):bst d (j+1)=(j,d j):=by
 show (if j=0∨d j< (bst d j).2 then (j,d j) else bst d j)=_
 exact if_pos h
theorem Zmo {j:Nat} (h:¬ j=0) (g:¬ d j< (bst d j).2):bst d (j+1)=bst d j:=by
 show (if j=0∨d j< (bst d j).2 then (j,d j) else bst d j)=_
 exact if_neg fun k=>k.elim h g
theorem Zm9 : ∀ j, 1 ≤ j → (bst d j).1 < j ∧ (bst d j).2 = d (bst d j).1 ∧ (∀ k, k < j → d (bst d j).1 ≤ d k) ∧ ∀ k, k < (bst d j).1 → d (bst d j).1 < d k := by
  intro j
  induction j with
  | zero => intro h; omega
  | succ j ih =>
    intro _
    by_cases h : j = 0
    · subst h
      rw [ZeJ (.inl rfl)]
      exact ⟨Nat.lt_succ_self _, rfl, fun k hk => by obtain rfl : k = 0 := by omega
                                                     exact Rat.le_refl, fun k hk => absurd hk (Nat.not_lt_zero _)⟩
    · obtain ⟨a1, a2, a3, a4⟩ := ih (by omega)
      by_cases g : d j < (bst d j).2
      · rw [ZeJ (.inr g)]
        rw [a2] at g
        refine ⟨Nat.lt_succ_self _, rfl, fun k hk => ?_, fun k hk => ?_⟩
        · by_cases e : k = j
          · subst e; exact Rat.le_refl
          · have := a3 k (by omega); show d j ≤ d k; grind
        · have := a3 k hk; show d j < d k; grind
      · rw [Zmo h g]
        rw [a2] at g
        refine ⟨by omega, a2, fun k hk => ?_, a4⟩
        by_cases e : k = j
        · subst e; exact Rat.not_lt.1 g
        · exact a3 k (by omega)
theorem ZlQ {n m:Nat} (hm:m< n) (h1:∀ k,k< m→d m< d k) (h2:∀ k,k< n→d m≤d k):(bst d n).1=m:=by
 obtain⟨a1,a2,a3,a4⟩:=Zm9 (d:=d) n (by omega)
 rcases Nat.lt_trichotomy (bst d n).1 m with h|h|h
 ·have:=h1 _ h;have:=a3 m hm;grind
 ·exact h
 ·have:=a4 _ h;have:=h2 _ a1;grind
end
theorem ZeL {p:Rat} (h:0≤p):absV p=p:=if_neg (by have:=Rat.num_nonneg.2 h;omega)
theorem ZeK {p:Rat} (h:p≤0):absV p=-p:=by
 unfold absV
 split
 ·rfl
 ·rename_i g
  have:0≤p:=Rat.num_nonneg.1 (by omega)
  grind
theorem ZlT {c p:Rat} (hc:0< c):absV (c*p)=c*absV p:=by
 by_cases h:0≤p
 ·rw [ZeL h,ZeL (Rat.mul_nonneg (by grind) h)]
 ·have h:p≤0:=by grind
  have:=Rat.mul_nonneg (a:=c) (b:=-p) (by grind) (by grind)
  rw [ZeK h,ZeK (by grind)]
  grind
theorem ZmH {lo hi x:Rat} {s:Int} (h1:lo< hi) (h2:lo≤x) (h3:x≤hi) (hs:1≤s) {t:Rat} (ht:t=(x - lo) / (hi - lo)*(s:Rat)) {m:Int} (hm:m=-(hfQ - t).floor) {n:Nat} (hn:(n:Int)=s+1)
  {d:Nat→Rat} (hd:∀ k,d k=absV (lo+(hi - lo)*((k:Int):Rat) / (s:Rat) - x)):0≤m∧m≤s∧((bst d n).1:Int)=m:=by
 have hS:(0:Rat)< (s:Rat):=by
  have:((0:Int):Rat)< (s:Rat):=Rat.intCast_lt_intCast.2 (by omega)
  exact this
 have hH:0< hi - lo:=by grind
 obtain⟨c,hc⟩:∃ c,c=(hi - lo) / (s:Rat):=⟨_,rfl⟩
 have hcp:0< c:=by rw [hc];exact(Rat.lt_div_iff hS).2 (by rw [Rat.zero_mul];exact hH)
 have key:∀ k:Rat,lo+(hi - lo)*k / (s:Rat) - x=c*(k - t):=fun k=>by
  have:hi - lo≠0:=by grind
  grind
 have u0:0≤(x - lo) / (hi - lo):=Rat.not_lt.1 fun g=>by
  have:=(Rat.div_lt_iff hH).1 g
  rw [Rat.zero_mul] at this
  grind
 have u1:(x - lo) / (hi - lo)≤1:=Rat.not_lt.1 fun g=>by
  have:=(Rat.lt_div_iff hH).1 g
  rw [Rat.one_mul] at this
  grind
 have t0:0≤t:=by rw [ht];exact Rat.mul_nonneg u0 (by grind)
 have t1:t≤(s:Rat):=by
  have:=Rat.mul_le_mul_of_nonneg_left u1 (c:=(s:Rat)) (by grind)
  rw [ht,Rat.mul_comm]
  grind
 have f1:=Rat.floor_le (hfQ - t)
 have f2:=Rat.lt_floor (x:=hfQ - t)
 have hh:hfQ+hfQ=1:=by decide+kernel
 have em:(m:Rat)=-((hfQ - t).floor:Rat):=by rw [hm,Rat.intCast_neg]
 have g1:t - hfQ≤(m:Rat):=by grind
 have g2:(m:Rat)< t+hfQ:=by grind
 have m0:0≤m:=by
  have:((-1:Int):Rat)< (m:Rat):=by
   rw [show ((-1:Int):Rat)=-1 from rfl]
   grind
  have:=Rat.intCast_lt_intCast.1 this
  omega
 have m1:m≤s:=by
  have:(m:Rat)< ((s+1:Int):Rat):=by
   rw [Rat.intCast_add,show ((1:Int):Rat)=1 from rfl]
   grind
  have:=Rat.intCast_lt_intCast.1 this
  omega
 refine⟨m0,m1,?_⟩
 obtain⟨M,hM⟩:∃ M:Nat,(M:Int)=m:=⟨m.toNat,by omega⟩
 rw [← hM] at g1 g2 m1
 rw [← hM]
 have hdk:∀ k:Nat,d k=c*absV (((k:Int):Rat) - t):=fun k=>by rw [hd,key,ZlT hcp]
 have eM:absV (((M:Int):Rat) - t)≤hfQ:=by
  by_cases h:0≤((M:Int):Rat) - t
  ·rw [ZeL h];grind
  ·rw [ZeK (by grind)];grind
 have lt:∀ k:Nat,k< M→absV (((M:Int):Rat) - t)< absV (((k:Int):Rat) - t):=fun k hk=>by
  have:((k+1:Int):Rat)≤((M:Int):Rat):=Rat.intCast_le_intCast.2 (by omega)
  rw [Rat.intCast_add,show ((1:Int):Rat)=1 from rfl] at this
  rw [ZeK (p:=((k:Int):Rat) - t) (by grind)]
  grind
 have le:∀ k:Nat,absV (((M:Int):Rat) - t)≤absV (((k:Int):Rat) - t):=fun k=>by
  rcases Nat.lt_trichotomy k M with h|h|h
  ·have:=lt k h;grind
  ·subst h;exact Rat.le_refl
  ·have:((M+1:Int):Rat)≤((k:Int):Rat):=Rat.intCast_le_intCast.2 (by omega)
   rw [Rat.intCast_add,show ((1:Int):Rat)=1 from rfl] at this
   rw [ZeL (p:=((k:Int):Rat) - t) (by grind)]
   grind
 rw [ZlQ (d:=d) (n:=n) (m:=M) (by omega) (fun k hk=>by rw [hdk,hdk];exact Rat.mul_lt_mul_of_pos_left (lt k hk) hcp) (fun k _=>by rw [hdk,hdk];exact Rat.mul_le_mul_of_nonneg_left (le k) (by grind))]
noncomputable def rcE (A:ArmV) (s:Int):Int:=if armE A=0 then (if 1≤s∧s≤12 then 0 else 1) else armE A
theorem ZmC {A:ArmV} {s:Int} (h:armE A=0) (g:1≤s∧s≤12):rcE A s=0:=by unfold rcE;rw [if_pos h,if_pos g]
theorem Zf5 {A:ArmV} {s:Int} (h:armE A=0) (g:¬ (1≤s∧s≤12)):rcE A s=1:=by unfold rcE;rw [if_pos h,if_neg g]
theorem Zk6 {A:ArmV} {s:Int} (h:¬ armE A=0):rcE A s=armE A:=if_neg h
theorem Zl6 {A:ArmV} {s:Int} (h:rcE A s=0):armE A=0∧1≤s∧s≤12:=by
 by_cases g:armE A=0
 ·by_cases k:1≤s∧s≤12
  ·exact⟨g,k⟩
  ·rw [Zf5 g k] at h;exact absurd h (by decide)
 ·rw [Zk6 g] at h;exact absurd h g
def spB (L:List Int) (s:Int):Prop:=∃ k,k∈L∧(k< 0∨s< k)
open Classical in
noncomputable def spotE (L:List Int) (n s:Int):Int:=if (L.length:Int)=n then (if spB L s then 17 else 0) else 1
theorem ZfR {L:List Int} {n s:Int} (h:¬ (L.length:Int)=n):spotE L n s=1:=by unfold spotE;exact if_neg h
theorem ZbU {L:List Int} {n s:Int} (h:(L.length:Int)=n) (g:spB L s):spotE L n s=17:=by unfold spotE;rw [if_pos h,if_pos g]
theorem ZfS {L:List Int} {n s:Int} (h:(L.length:Int)=n) (g:¬ spB L s):spotE L n s=0:=by unfold spotE;rw [if_pos h,if_neg g]
theorem ZgU {L:List Int} {n s:Int} (h:spotE L n s=0):(L.length:Int)=n∧∀ (i:Nat) (k:Int),L[i]? =some k→0≤k∧k≤s:=by
 by_cases g:(L.length:Int)=n
 ·by_cases b:spB L s
  ·rw [ZbU g b] at h;exact absurd h (by decide)
  ·exact⟨g,fun i k hk=>Classical.byContradiction fun c=>b ⟨k,List.mem_of_getElem? hk,by omega⟩⟩
 ·rw [ZfR g] at h;exact absurd h (by decide)
theorem Zl2 {L:List Int} {s:Int} (h:∀ (j:Nat) (k:Int),j< L.length→L[j]? =some k→¬ (k< 0∨s< k)):¬ spB L s:=by
 rintro⟨k,hk,hb⟩
 obtain⟨j,hj⟩:=List.mem_iff_getElem?.1 hk
 exact h j k (List.getElem?_eq_some_iff.1 hj).1 hj hb
noncomputable def rvE (A:ArmV) (s:Int) (L:List Int):Int:=if rcE A s=0 then spotE L A.links.length s else rcE A s
theorem Zel {A:ArmV} {s:Int} {L:List Int} (h:rcE A s=0):rvE A s L=spotE L A.links.length s:=if_pos h
theorem ZkV {A:ArmV} {s c:Int} {L:List Int} (h:rcE A s=c) (g:¬ c=0):rvE A s L=c:=by unfold rvE;rw [h,if_neg g]
def sptA (L:List Int) (i:Nat):Int:=(L[i]?).getD 0
theorem ZiQ {L:List Int} {i:Nat} {k:Int} (h:L[i]? =some k):sptA L i=k:=by simp [sptA,h]
def vlQ (A:ArmV) (s:Int) (L:List Int) (i:Nat):Rat:=(lkAt A i).low.q+((lkAt A i).high.q - (lkAt A i).low.q)*((sptA L i:Rat) / (s:Rat))
def vlF (A:ArmV) (s:Int) (L:List Int) (n:Nat):List Rat:=(List.range n).map (vlQ A s L)
theorem Zed (A:ArmV) (s:Int) (L:List Int) (n:Nat):(vlF A s L n).length=n:=by simp [vlF]
theorem ZgP {α:Type} (g:Rat→α) (A:ArmV) (s:Int) (L:List Int) (i:Nat):List.map g (vlF A s L (i+1))=List.map g (vlF A s L i)++ [g (vlQ A s L i)]:=by
 simp [vlF,List.range_succ]
open Classical in
noncomputable def rvV (A:ArmV) (s:Int) (L:List Int):List Rat:=if rvE A s L=0 then vlF A s L A.links.length else []
theorem ZdO {A:ArmV} {s:Int} {L:List Int} (h:rvE A s L=0):rvV A s L=vlF A s L A.links.length:=if_pos h
theorem Zcx {A:ArmV} {s:Int} {L:List Int} (h:¬ rvE A s L=0):rvV A s L= []:=if_neg h
noncomputable def rnE (A:ArmV) (s:Int) (Q:List RV):Int:=if rcE A s=0 then fitsE A Q else rcE A s
theorem Zf4 {A:ArmV} {s:Int} {Q:List RV} (h:rcE A s=0):rnE A s Q=fitsE A Q:=if_pos h
theorem Zk2 {A:ArmV} {s c:Int} {Q:List RV} (h:rcE A s=c) (g:¬ c=0):rnE A s Q=c:=by unfold rnE;rw [h,if_neg g]
def nrT (A:ArmV) (s:Int) (Q:List RV) (i:Nat):Rat:=(qAt Q i - (lkAt A i).low.q) / ((lkAt A i).high.q - (lkAt A i).low.q)*(s:Rat)
def nrQ (A:ArmV) (s:Int) (Q:List RV) (i:Nat):Int:=-(hfQ - nrT A s Q i).floor
def nrF (A:ArmV) (s:Int) (Q:List RV) (n:Nat):List Int:=(List.range n).map (nrQ A s Q)
theorem Zew (A:ArmV) (s:Int) (Q:List RV) (n:Nat):(nrF A s Q n).length=n:=by simp [nrF]
theorem Zg8 {α:Type} (g:Int→α) (A:ArmV) (s:Int) (Q:List RV) (i:Nat):List.map g (nrF A s Q (i+1))=List.map g (nrF A s Q i)++ [g (nrQ A s Q i)]:=by
 simp [nrF,List.range_succ]
open Classical in
noncomputable def rnV (A:ArmV) (s:Int) (Q:List RV):List Int:=if rnE A s Q=0 then nrF A s Q A.links.length else []
theorem Ze5 {A:ArmV} {s:Int} {Q:List RV} (h:rnE A s Q=0):rnV A s Q=nrF A s Q A.links.length:=if_pos h
theorem Zc2 {A:ArmV} {s:Int} {Q:List RV} (h:¬ rnE A s Q=0):rnV A s Q= []:=if_neg h
theorem ZmZ {A:ArmV} {Q:List RV} (h:fitsE A Q=0):∀ (i:Nat) (l:LinkV) (x:RV),A.links[i]? =some l→Q[i]? =some x→l.low.q≤x.q∧x.q≤l.high.q:=by
 have⟨h1,h2⟩:=Zca h
 have hh:hasE A (Q.length:Int)=0:=ZaX.2 ⟨h2,by rw [h1]⟩
 intro i l x hl hx
 unfold fitsE at h
 rw [if_pos hh] at h
 have hf:¬ farQ A Q:=fun g=>by rw [if_pos g] at h;exact absurd h (by decide)
 exact⟨Rat.not_lt.1 fun g=>hf ⟨i,l,x,hl,hx,.inl g⟩,Rat.not_lt.1 fun g=>hf ⟨i,l,x,hl,hx,.inr g⟩⟩
def dsQ (A:ArmV) (s:Int) (Q:List RV) (i k:Nat):Rat:=absV ((lkAt A i).low.q+((lkAt A i).high.q - (lkAt A i).low.q)*((k:Int):Rat) / (s:Rat) - qAt Q i)
theorem Zjx {A:ArmV} {s:Int} {Q:List RV} {i:Nat} {l:LinkV} {x:RV} (h:fitsE A Q=0) (hl:A.links[i]? =some l) (hx:Q[i]? =some x) (hs:1≤s) {n:Nat} (hn:(n:Int)=s+1):
  0≤nrQ A s Q i∧nrQ A s Q i≤s∧((bst (dsQ A s Q i) n).1:Int)=nrQ A s Q i:=by
 obtain⟨g1,g2⟩:=ZmZ h i l x hl hx
 have ll:=(ZR (Zca h).2 (List.mem_of_getElem? hl)).2.2.2.2.2.2.1
 have el:=ZaF hl
 have ex:qAt Q i=x.q:=Ze7 hx
 exact ZmH (lo:=l.low.q) (hi:=l.high.q) (x:=x.q) ll g1 g2 hs (t:=nrT A s Q i) (by unfold nrT;rw [el,ex]) rfl hn fun k=>by unfold dsQ;rw [el,ex]
end Go.Proofs.YtpfemjpgbpnpkaaGreatDoor.eng
