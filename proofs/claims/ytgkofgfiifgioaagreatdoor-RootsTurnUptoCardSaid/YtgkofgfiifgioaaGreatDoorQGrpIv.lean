/- Joined by wip/bundle.py: XInv0. -/
import Derived.Test.YtgkofgfiifgioaaGreatDoorQGrpSr
namespace Go.Proofs.YtgkofgfiifgioaaGreatDoor.eng
open Go.RowKit num mem seg q held ratA ratB ratC ratD ratE vars ratF prf trq
def zOb (l:List Rat):Bool:=decide (l.length≤1048576)&&l.all fun c=>decide (qs c≤1048576)
theorem ZbQ {l:List Rat} (h:zOb l=true):zO l:=by
 unfold zOb at h
 rw [Bool.and_eq_true] at h
 exact⟨of_decide_eq_true h.1,fun c hc=>of_decide_eq_true (List.all_eq_true.1 h.2 c hc)⟩
def dvb (p q:List Rat) (n:Nat):Bool:=((List.range (n+1)).all fun t=>((dvS p q t).1.all fun c=>decide (qs c≤1048576))&&((dvS p q t).2.all fun c=>decide (qs c≤1048576)))&&decide (dvS p q (n+1)=dvS p q n)
theorem Zl4 {p q:List Rat} {n:Nat} (h:dvb p q n=true):dvZ p q:=by
 unfold dvb at h
 rw [Bool.and_eq_true] at h
 obtain⟨h1,h2⟩:=h
 have h2:=of_decide_eq_true h2
 have fin:∀ k,dvS p q (n+k)=dvS p q n:=fun k=>by
  induction k with
  |zero=>rfl
  |succ k ih=>show dvT q (dvS p q (n+k))=_;rw [ih];exact h2
 have low:∀ t,t≤n→(∀ c,c∈(dvS p q t).1→qs c≤1048576)∧∀ c,c∈(dvS p q t).2→qs c≤1048576:=fun t ht=>by
  have:=List.all_eq_true.1 h1 t (List.mem_range.2 ω)
  rw [Bool.and_eq_true] at this
  exact⟨fun c hc=>of_decide_eq_true (List.all_eq_true.1 this.1 c hc),fun c hc=>of_decide_eq_true (List.all_eq_true.1 this.2 c hc)⟩
 intro t
 by_cases ht:t≤n
 ·exact low t ht
 ·have:=fin (t - n)
  rw [show n+(t - n)=t by omega] at this
  rw [this];exact low n (Nat.le_refl _)
def plb (p:List Rat) (n m:Nat):Bool:=decide ((plS p n).2= [])&&(((List.range (n+1)).all fun t=>zOb (plS p t).1&&(zOb (plS p t).2&&dvb (plS p t).1 (plS p t).2 m))&&(dvb p (plF p).1 m&&zOb (dvF p (plF p).1).1))
theorem ZrR {p:List Rat} {n m:Nat} (h:plb p n m=true):plZ p:=by
 unfold plb at h
 simp only [Bool.and_eq_true] at h
 obtain⟨h1,h2,h3,h4⟩:=h
 have h1:=of_decide_eq_true h1
 have low:∀ t,t≤n→zO (plS p t).1∧zO (plS p t).2∧dvZ (plS p t).1 (plS p t).2:=fun t ht=>by
  have:=List.all_eq_true.1 h2 t (List.mem_range.2 ω)
  simp only [Bool.and_eq_true] at this
  exact⟨ZbQ this.1,ZbQ this.2.1,Zl4 this.2.2⟩
 refine⟨fun t=> ?_,Zl4 h3,ZbQ h4⟩
 by_cases ht:t≤n
 ·exact low t ht
 ·rw [Zco h1 t ω];exact low n (Nat.le_refl _)
def cnb (p:List Rat) (n m:Nat):Bool:=zOb p&&(decide ((cnS p n).2= [])&&((List.range (n+1)).all fun t=>zOb (cnS p t).2&&(((cnS p t).1.all fun a=>zOb a)&&(zOb (scQ (cnS p t).2)&&dvb (lsC (cnS p t).1) (scQ (cnS p t).2) m))))
theorem ZsT {p:List Rat} {n m:Nat} (h:cnb p n m=true):cnZ p:=by
 unfold cnb at h
 simp only [Bool.and_eq_true] at h
 obtain⟨h0,h1,h2⟩:=h
 have h1:=of_decide_eq_true h1
 have low:∀ t,t≤n→zO (cnS p t).2∧(∀ a,a∈(cnS p t).1→zO a)∧zO (scQ (cnS p t).2)∧dvZ (lsC (cnS p t).1) (scQ (cnS p t).2):=fun t ht=>by
  have:=List.all_eq_true.1 h2 t (List.mem_range.2 ω)
  simp only [Bool.and_eq_true] at this
  exact⟨ZbQ this.1,fun a ha=>ZbQ (List.all_eq_true.1 this.2.1 a ha),ZbQ this.2.2.1,Zl4 this.2.2.2⟩
 refine⟨ZbQ h0,fun t=> ?_⟩
 by_cases ht:t≤n
 ·exact low t ht
 ·rw [ZdL h1 t ω];exact low n (Nat.le_refl _)
def chb (C:List (List Rat)):Bool:=decide (C.length≤1048576)&&C.all fun p=>zOb p
theorem ZsW {C:List (List Rat)} (h:chb C=true):chZ C:=by
 unfold chb at h
 rw [Bool.and_eq_true] at h
 exact⟨of_decide_eq_true h.1,fun p hp=>ZbQ (List.all_eq_true.1 h.2 p hp)⟩
def rdyB (p:List Rat) (C:List (List Rat)) (n m:Nat):Bool:=
 zOb p&&(decide (trP p≠ [])&&(decide ((trP p).length≤13)&&(plb (trP p) n m&&(decide (plQ (trP p)≠ [])&&(cnb (plQ (trP p)) n m&&(decide (cnF (plQ (trP p))=C)&&(chb C&&decide (0< C.length))))))))
theorem ZpS {p:List Rat} {C:List (List Rat)} {n m:Nat} (h:rdyB p C n m=true):RdyOk p C:=by
 unfold rdyB at h
 simp only [Bool.and_eq_true] at h
 obtain⟨h1,h2,h3,h4,h5,h6,h7,h8,h9⟩:=h
 exact⟨ZbQ h1,of_decide_eq_true h2,of_decide_eq_true h3,ZrR h4,of_decide_eq_true h5,ZsT h6,of_decide_eq_true h7,ZsW h8,of_decide_eq_true h9⟩
