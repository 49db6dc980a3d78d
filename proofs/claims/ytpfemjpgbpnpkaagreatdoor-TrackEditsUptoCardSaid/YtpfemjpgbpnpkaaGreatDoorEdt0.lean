/- Plain law: tracks joined, cut and delayed. No program. -/
import Derived.Test.YtpfemjpgbpnpkaaGreatDoorGrp4
namespace Go.Proofs.YtpfemjpgbpnpkaaGreatDoor.eng
open Go.RowKit num mem seg q held ratA ratB ratC ratD ratE vars ratF argopen
def gdK (k:Int×List RV):Int×List Rat:=(k.1,qsL k.2)
def cnK (k:Int×List Rat):Int×List RV:=(k.1,k.2.map cn)
def gcK (k:Int×List RV):Int×List RV:=cnK (gdK k)
theorem ZuM (k:Int×List Rat):keyC k=keyD (cnK k):=by
 unfold keyC keyD cnK
 rw [List.map_map];rfl
theorem Zr6 (l:List (Int×List Rat)):List.map keyC l=List.map keyD (l.map cnK):=by
 rw [List.map_map]
 congr 1
 funext k
 exact ZuM k
theorem Zmu (q:List RV) (i:Nat):((qsL q).map cn)[i]? =(q[i]?).map fun x=>cn x.q:=by simp [qsL];rfl
theorem ZtY (q:List RV):((qsL q).map cn).length=q.length:=by simp [qsL]
theorem Zt3 (A:ArmV) (q:List RV):farQ A ((qsL q).map cn)↔farQ A q:=by
 constructor
 ·rintro⟨i,l,x,hl,hx,h⟩
  rw [Zmu] at hx
  obtain⟨y,hy,rfl⟩:=Option.map_eq_some_iff.1 hx
  rw [cn_q] at h
  exact⟨i,l,y,hl,hy,h⟩
 ·rintro⟨i,l,y,hl,hy,h⟩
  exact⟨i,l,cn y.q,hl,by rw [Zmu,hy];rfl,by rw [cn_q];exact h⟩
theorem Zvb (A:ArmV) (q:List RV):fitsE A ((qsL q).map cn)=fitsE A q:=by
 unfold fitsE
 rw [ZtY]
 by_cases h:farQ A q
 ·rw [if_pos h,if_pos ((Zt3 A q).2 h)]
 ·rw [if_neg h,if_neg (fun g=>h ((Zt3 A q).1 g))]
theorem ZpG (A:ArmV) (p k:Int×List RV):fastP A (gcK p) (gcK k)↔fastP A p k:=by
 constructor
 ·rintro⟨i,l,x,y,hl,hx,hy,h⟩
  rw [show (gcK p).2=(qsL p.2).map cn from rfl,Zmu] at hx
  rw [show (gcK k).2=(qsL k.2).map cn from rfl,Zmu] at hy
  obtain⟨x',hx',rfl⟩:=Option.map_eq_some_iff.1 hx
  obtain⟨y',hy',rfl⟩:=Option.map_eq_some_iff.1 hy
  rw [cn_q,cn_q] at h
  exact⟨i,l,x',y',hl,hx',hy',h⟩
 ·rintro⟨i,l,x,y,hl,hx,hy,h⟩
  exact⟨i,l,cn x.q,cn y.q,hl,by rw [show (gcK p).2=(qsL p.2).map cn from rfl,Zmu,hx];rfl,by rw [show (gcK k).2=(qsL k.2).map cn from rfl,Zmu,hy];rfl,by rw [cn_q,cn_q];exact h⟩
theorem Zo4 (A:ArmV) (k:Int×List RV):key1 A (gcK k)=key1 A k:=by
 unfold key1
 rw [show (gcK k).2=(qsL k.2).map cn from rfl,Zvb];rfl
theorem ZuO (A:ArmV) (p k:Int×List RV):key2 A (gcK p) (gcK k)=key2 A p k:=by
 unfold key2
 rw [Zo4]
 by_cases h:fastP A p k
 ·rw [if_pos h,if_pos ((ZpG A p k).2 h)];rfl
 ·rw [if_neg h,if_neg (fun g=>h ((ZpG A p k).1 g))];rfl
theorem Zth (t:List (Int×List RV)) (i:Nat):tAt (t.map gcK) i=gcK (tAt t i):=by
 unfold tAt
 rw [List.getElem?_map]
 cases t[i]? <;>rfl
theorem ZuL (A:ArmV) (t:List (Int×List RV)) (i:Nat):keyE A (t.map gcK) i=keyE A t i:=by
 unfold keyE
 rw [Zth,Zth,Zo4,ZuO]
theorem ZqT (A:ArmV) (t:List (Int×List RV)):trackE A (t.map gcK)=trackE A t:=by
 unfold trackE
 rw [List.length_map,show keyE A (t.map gcK)=keyE A t from funext fun i=>ZuL A t i]
theorem Zcn {A:ArmV} {t:List (Int×List RV)} (h:trackE A t=0):armE A=0∧¬ t.length=0∧¬ 60< t.length∧∀ j,j< t.length→keyE A t j=0:=by
 by_cases a:armE A=0
 ·by_cases b:t.length=0
  ·rw [Zco a b] at h;exact absurd h (by decide)
  ·by_cases c:60< t.length
   ·rw [ZdQ a b c] at h;exact absurd h (by decide)
   ·refine⟨a,b,c,Zc2 ?_⟩
    unfold trackE at h
    rw [if_pos a,if_neg b,if_neg c] at h;exact h
 ·rw [ZdR a] at h;exact absurd h a
theorem ZuN {A:ArmV} {p k:Int×List RV} (h:key2 A p k=0):key1 A k=0∧p.1< k.1:=by
 by_cases a:key1 A k=0
 ·by_cases b:k.1≤p.1
  ·rw [Zo1 a b] at h;exact absurd h (by decide)
  ·exact⟨a,by omega⟩
 ·rw [Zo3 a] at h;exact absurd h a
theorem ZaP {A:ArmV} {t:List (Int×List RV)} (h:trackE A t=0) {i:Nat} {k:Int×List RV} (hk:t[i]? =some k):(0≤k.1∧k.1≤2000)∧k.2.length=A.links.length:=by
 have hi:=(List.getElem?_eq_some_iff.1 hk).1
 have h1:=ZbP.1 (Zfl hk ((Zcn h).2.2.2 i hi))
 exact⟨h1.1,(ZdF h1.2).1⟩
theorem Zer {A:ArmV} {t:List (Int×List RV)} (h:trackE A t=0) {i:Nat} {p k:Int×List RV} (hp:t[i]? =some p) (hk:t[i+1]? =some k):p.1< k.1:=by
 have hi:=(List.getElem?_eq_some_iff.1 hk).1
 have e:=(Zcn h).2.2.2 (i+1) hi
 rw [Zfk (by omega) hp hk] at e
 exact(ZuN e).2
theorem ZvC {A : ArmV} {t : List (Int × List RV)} (h : trackE A t = 0) : ∀ (i : Nat) {k : Int × List RV}, t[i]? = some k → i = 0 ∨ atI t k.1 i k
  | 0, k, _ => .inl rfl
  | i + 1, k, hk => by
    have hi := (List.getElem?_eq_some_iff.1 hk).1
    have hp : t[i]? = some _ := List.getElem?_eq_getElem (by omega : i < t.length)
    have hlt := Zer h hp hk
    refine .inr ?_
    -- walk up from the first key
    have h0 : t[0]? = some _ := List.getElem?_eq_getElem (by omega : 0 < t.length)
    have up : ∀ j, j ≤ i → ∀ q, t[j]? = some q → q.1 < k.1 ∧ atI t k.1 j q := by
      intro j
      induction j with
      | zero =>
        intro _ q hq
        have hlt0 : q.1 < k.1 := mono h (by omega) hq hk
        exact ⟨hlt0, ZvD hq (by omega)⟩
      | succ j ih =>
        intro hj q hq
        have hq0 : t[j]? = some _ := List.getElem?_eq_getElem (by omega : j < t.length)
        obtain ⟨_, ha⟩ := ih (by omega) _ hq0
        have hlt1 : q.1 < k.1 := mono h (by omega) hq hk
        exact ⟨hlt1, ZsW ha hq (by omega)⟩
    obtain ⟨_, ha⟩ := up i (Nat.le_refl _) _ hp
    exact ZsW ha hk (by omega)
where
  mono {A : ArmV} {t : List (Int × List RV)} (h : trackE A t = 0) {i j : Nat} (hij : i < j) {p k : Int × List RV} (hp : t[i]? = some p) (hk : t[j]? = some k) : p.1 < k.1 := by
    obtain ⟨d, rfl⟩ : ∃ d, j = i + 1 + d := ⟨j - i - 1, by omega⟩
    induction d generalizing k with
    | zero => exact Zer h hp hk
    | succ d ih =>
      have hj := (List.getElem?_eq_some_iff.1 hk).1
      have hm : t[i + 1 + d]? = some _ := List.getElem?_eq_getElem (by omega : i + 1 + d < t.length)
      have := ih (by omega) hm
      have := Zer h hm hk
      omega
theorem Zsu (a b:List RV) (i:Nat):itF 0 a b i=qAt a i:=by unfold itF;rw [Rat.zero_mul,Rat.add_zero]
theorem Zst {a b:List RV} (h:a.length=b.length):itL 0 a b (min a.length b.length)=qsL a:=by
 apply List.ext_getElem?
 intro i
 unfold itL qsL
 rw [List.getElem?_map,List.getElem?_map]
 by_cases hi:i< a.length
 ·rw [List.getElem?_eq_getElem (by simp;omega),List.getElem?_eq_getElem hi]
  simp only [Option.map_some,List.getElem_range]
  rw [Zsu,ZR (List.getElem?_eq_getElem hi)]
 ·rw [List.getElem?_eq_none (by simp;omega),List.getElem?_eq_none (by omega)];rfl
theorem ZvA {A:ArmV} {t:List (Int×List RV)} (h:trackE A t=0) {i:Nat} {k:Int×List RV} (hk:t[i]? =some k):atL t k.1=qsL k.2:=by
 rcases ZvC h i hk with rfl|ha
 ·exact ZvB hk (Int.le_refl _)
 ·by_cases hi:i+1< t.length
  ·have hy:t[i+1]? =some _:=List.getElem?_eq_getElem hi
   rw [Zqn ha hy (Zer h hk hy),show ((k.1:Rat) - (k.1:Rat))=0 from by grind,show (0:Rat) / _=0 from by rw [Rat.div_def,Rat.zero_mul],Zst (by rw [(ZaP h hk).2,(ZaP h hy).2])]
  ·exact Zkc ha (by omega)
noncomputable def joinE (A:ArmV) (t u:List (Int×List RV)):Int:=if trackE A t=0 then (if trackE A u=0 then trackE A (t++u) else trackE A u) else trackE A t
noncomputable def joinV (A:ArmV) (t u:List (Int×List RV)):List (Int×List Rat):=if joinE A t u=0 then (t++u).map gdK else []
section
variable {A : ArmV} {t u : List (Int × List RV)}
theorem ZjO (h:¬ trackE A t=0):joinE A t u=trackE A t:=if_neg h
theorem ZjN (h:trackE A t=0) (g:¬ trackE A u=0):joinE A t u=trackE A u:=by unfold joinE;rw [if_pos h,if_neg g]
theorem Zfu (h:trackE A t=0) (g:trackE A u=0):joinE A t u=trackE A (t++u):=by unfold joinE;rw [if_pos h,if_pos g]
theorem Zcw (h:¬ joinE A t u=0):joinV A t u= []:=if_neg h
theorem Zhg (h:joinE A t u=0):joinV A t u=(t++u).map gdK:=if_pos h
end
def cutBad (s e:Int):Prop:=s< 0∨e≤s∨2000< e
instance (s e:Int):Decidable (cutBad s e):=by unfold cutBad;infer_instance
def cutK (t:List (Int×List RV)) (s e:Int):List (Int×List RV):=t.filter fun k=>decide (s< k.1)&&decide (k.1< e)
def cutT (t:List (Int×List RV)) (s e:Int):List (Int×List Rat):=(s,atL t s) :: ((cutK t s e).map gdK++ [(e,atL t e)])
def ctE (t:List (Int×List RV)) (s e:Int):Int:=if cutBad s e then 1 else if 60< (cutK t s e).length+2 then 2 else 0
def ctV (t:List (Int×List RV)) (s e:Int):List (Int×List Rat):=if ctE t s e=0 then cutT t s e else []
noncomputable def tcE (A:ArmV) (t:List (Int×List RV)) (s e:Int):Int:=if trackE A t=0 then ctE t s e else trackE A t
noncomputable def tcV (A:ArmV) (t:List (Int×List RV)) (s e:Int):List (Int×List Rat):=if trackE A t=0 then ctV t s e else []
section
variable {A : ArmV} {t : List (Int × List RV)} {s e : Int}
theorem ZmH (h:cutBad s e):ctE t s e=1:=if_pos h
theorem ZsI (h:¬ cutBad s e) (g:60< (cutK t s e).length+2):ctE t s e=2:=by unfold ctE;rw [if_neg h,if_pos g]
theorem ZsJ (h:¬ cutBad s e) (g:¬ 60< (cutK t s e).length+2):ctE t s e=0:=by unfold ctE;rw [if_neg h,if_neg g]
theorem Zcj (h:¬ ctE t s e=0):ctV t s e= []:=if_neg h
theorem ZiH (h:ctE t s e=0):ctV t s e=cutT t s e:=if_pos h
theorem Znx (h:¬ trackE A t=0):tcE A t s e=trackE A t∧tcV A t s e= []:=⟨if_neg h,if_neg h⟩
theorem Zbf (h:trackE A t=0):tcE A t s e=ctE t s e∧tcV A t s e=ctV t s e:=⟨if_pos h,if_pos h⟩
end
theorem Zhq {t:List (Int×List RV)} {s e:Int} {i:Nat} {k:Int×List RV} (h:t[i]? =some k) (g:s< k.1∧k.1< e):cutK (t.take (i+1)) s e=cutK (t.take i) s e++ [k]:=by
 unfold cutK
 rw [List.take_add_one,h,List.filter_append]
 simp [g.1,g.2]
theorem Zbq {t:List (Int×List RV)} {s e:Int} {i:Nat} {k:Int×List RV} (h:t[i]? =some k) (g:¬ (s< k.1∧k.1< e)):cutK (t.take (i+1)) s e=cutK (t.take i) s e:=by
 unfold cutK
 rw [List.take_add_one,h,List.filter_append]
 have:(decide (s< k.1)&&decide (k.1< e))=false:=by
  rw [Bool.and_eq_false_iff,decide_eq_false_iff_not,decide_eq_false_iff_not]
  by_cases a:s< k.1
  ·exact .inr fun b=>g ⟨a,b⟩
  ·exact .inl a
 simp [this]
theorem Zhp (t:List (Int×List RV)) (s e:Int):(cutK t s e).length≤t.length:=List.length_filter_le ..
def cutI2 (t:List (Int×List RV)) (s e:Int):List Int:=s :: ((cutK t s e).map Prod.fst++ [e])
theorem Zj4 {A:ArmV} {t:List (Int×List RV)} (h:trackE A t=0) (s e:Int):(cutI2 t s e).map (fun n=>(n,atL t n))=cutT t s e:=by
 unfold cutI2 cutT
 simp only [List.map_cons,List.map_append,List.map_map,List.map_nil]
 congr 2
 apply List.map_congr_left
 intro k hk
 obtain⟨i,hi⟩:=List.mem_iff_getElem?.1 (List.mem_filter.1 hk).1
 show (k.1,atL t k.1)=(k.1,qsL k.2)
 rw [ZvA h hi]
def dlBad (t:List (Int×List RV)) (d:Int):Prop:=d< -2000∨2000< d∨(tAt t 0).1+d< 0
instance (t:List (Int×List RV)) (d:Int):Decidable (dlBad t d):=by unfold dlBad;infer_instance
def dyE (t:List (Int×List RV)) (d:Int):Int:=if dlBad t d then 1 else if 2000< (tAt t (t.length - 1)).1+d then 19 else 0
def dlT (t:List (Int×List RV)) (d:Int) (n:Nat):List (Int×List Rat):=(t.take n).map (fun k=>(k.1+d,qsL k.2))++(t.drop n).map gdK
def dyV (t:List (Int×List RV)) (d:Int):List (Int×List Rat):=if dyE t d=0 then dlT t d t.length else []
noncomputable def dlE (A:ArmV) (t:List (Int×List RV)) (d:Int):Int:=if trackE A t=0 then dyE t d else trackE A t
noncomputable def dlV (A:ArmV) (t:List (Int×List RV)) (d:Int):List (Int×List Rat):=if trackE A t=0 then dyV t d else []
section
variable {A : ArmV} {t : List (Int × List RV)} {d : Int}
theorem ZmD (h:dlBad t d):dyE t d=1:=if_pos h
theorem Zw3 (h:¬ dlBad t d) (g:2000< (tAt t (t.length - 1)).1+d):dyE t d=19:=by unfold dyE;rw [if_neg h,if_pos g]
theorem Zw4 (h:¬ dlBad t d) (g:¬ 2000< (tAt t (t.length - 1)).1+d):dyE t d=0:=by unfold dyE;rw [if_neg h,if_neg g]
theorem ZdG (h:¬ dyE t d=0):dyV t d= []:=if_neg h
theorem ZpQ (h:dyE t d=0):dyV t d=dlT t d t.length:=if_pos h
theorem ZpU (h:¬ trackE A t=0):dlE A t d=trackE A t∧dlV A t d= []:=⟨if_neg h,if_neg h⟩
theorem ZbY (h:trackE A t=0):dlE A t d=dyE t d∧dlV A t d=dyV t d:=⟨if_pos h,if_pos h⟩
end
theorem Zw6 (t:List (Int×List RV)) (d:Int):dlT t d 0=t.map gdK:=by simp [dlT]
theorem ZjY (t:List (Int×List RV)) (d:Int) (n:Nat):(dlT t d n).length=t.length:=by
 unfold dlT
 rw [List.length_append,List.length_map,List.length_map,← List.length_append,List.take_append_drop]
theorem ZpT {t:List (Int×List RV)} {d:Int} {n:Nat} {k:Int×List RV} (h:t[n]? =some k):(dlT t d n)[n]? =some (gdK k):=by
 have hn:=(List.getElem?_eq_some_iff.1 h).1
 unfold dlT
 rw [List.getElem?_append_right (by rw [List.length_map,List.length_take];omega),List.length_map,List.length_take,Nat.min_eq_left (by omega),Nat.sub_self,List.getElem?_map,List.getElem?_drop,Nat.add_zero,h];rfl
theorem Zw5 {t:List (Int×List RV)} {d:Int} {n:Nat} {k:Int×List RV} (h:t[n]? =some k):(List.map keyC (dlT t d n)).modify n (fun r=>repl r 0 [D.v (.int .i64 (k.1+d))])=List.map keyC (dlT t d (n+1)):=by
 have hn:=(List.getElem?_eq_some_iff.1 h).1
 apply List.ext_getElem?
 intro i
 rw [List.getElem?_modify,List.getElem?_map,List.getElem?_map]
 rcases Nat.lt_trichotomy i n with hi|rfl|hi
 ·have e:(dlT t d n)[i]? =(dlT t d (n+1))[i]? :=by
   unfold dlT
   rw [List.getElem?_append_left (by rw [List.length_map,List.length_take];omega),List.getElem?_append_left (by rw [List.length_map,List.length_take];omega),List.getElem?_map,List.getElem?_map,List.getElem?_take_of_lt hi,List.getElem?_take_of_lt (by omega)]
  rw [e]
  cases (dlT t d (n+1))[i]? with
  |none=>rfl
  |some a=>simp [show ¬ n=i by omega]
 ·have e2:(dlT t d (i+1))[i]? =some (k.1+d,qsL k.2):=by
   unfold dlT
   rw [List.getElem?_append_left (by rw [List.length_map,List.length_take];omega),List.getElem?_map,List.getElem?_take_of_lt (by omega),h];rfl
  rw [ZpT h,e2]
  simp only [Option.map_some,if_true]
  rfl
 ·have e:(dlT t d n)[i]? =(dlT t d (n+1))[i]? :=by
   unfold dlT
   rw [List.getElem?_append_right (by rw [List.length_map,List.length_take];omega),List.getElem?_append_right (by rw [List.length_map,List.length_take];omega),List.getElem?_map,List.getElem?_map,List.getElem?_drop,List.getElem?_drop,List.length_map,List.length_map,List.length_take,List.length_take]
   congr 2
   omega
  rw [e]
  cases (dlT t d (n+1))[i]? with
  |none=>rfl
  |some a=>simp [show ¬ n=i by omega]
end Go.Proofs.YtpfemjpgbpnpkaaGreatDoor.eng
