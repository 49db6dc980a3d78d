/- Joined by wip/bundle.py: XAbs XTck0 XWay0. -/
import Derived.Test.YtgmkgfdjolchdaaGreatDoorQGrpM
namespace Go.Proofs.YtgmkgfdjolchdaaGreatDoor.eng
open Go.RowKit num mem seg q held ratA ratB ratC ratD ratE vars ratF natC natD natI
section
variable {K : AV → Prop} {x : RV} {q : Rat}
def absV (p:Rat):Rat:=if p.num< 0 then -p else p
theorem Zty (p:Rat):cn (absV p)=⟨false,(cn p).a,(cn p).d⟩:=by
 unfold absV cn
 split
 ·rename_i h
  rw [Rat.neg_num,Rat.neg_den,Int.natAbs_neg,decide_eq_false ω]
 ·rename_i h
  rw [decide_eq_false h]
theorem ZsH (p:Rat):qs (absV p)=qs p:=by
 unfold absV
 split
 ·exact ZcB p
 ·rfl
theorem Zoe (hx:x.z≤4398046511104) (k:∀ q,q=absV x.q→(cn q).z≤x.z+1→K (rat (cn q))):Ask 63 [rat x] K:=by
 refine use (r:=rat (cn (absV x.q))) ?_ rfl (k _ rfl (by have:=x.z1;rw [cn_z,ZsH];omega))
 refine Za Tryz.func63 rfl rfl Tryz.ntmps63 rfl ωr rfl rfl ?_
 refine Zvc ω fun q h z=> ?_
 refine Eq.trans (b:=rat ⟨false,(cn q).a,(cn q).d⟩) ?_ rfl
 rw [Zty,h]
end
def firstE (f:Nat→Int):Nat→Int
 |0=>0
 |n+1=>if firstE f n=0 then f n else firstE f n
theorem Zf9 {f:Nat→Int}:∀ {n:Nat},(∀ j,j< n→f j=0)→firstE f n=0
 |0,_=>rfl
 |n+1,h=>by
  unfold firstE
  rw [if_pos (Zf9 fun j hj=>h j ω),h n ω]
theorem Zhu {f:Nat→Int} {i:Nat} (h:∀ j,j< i→f j=0) (hi:f i≠0):∀ {n:Nat},i< n→firstE f n=f i
 |0,hn=>absurd hn ω
 |n+1,hn=>by
  unfold firstE
  by_cases e:i=n
  ·subst e;rw [if_pos (Zf9 h)]
  ·rw [Zhu h hi (n:=n) ω,if_neg hi]
theorem Zf8 {A:ArmV} {q:List RV} (h:fitsE A q=0):q.length=A.links.length∧armE A=0:=by
 unfold fitsE at h
 by_cases g:hasE A (q.length:Int)=0
 ·obtain⟨h1,h2⟩:=Zaa.1 g
  exact⟨ω,h1⟩
 ·rw [if_neg g] at h;exact absurd h g
def rdrs (q:List RV):List D:= [D.list (List.map rd q)]
def gdL (l:List RV):List Rat:=l.map RV.q
theorem Zth (l:List RV):(gdL l).length=l.length:=List.length_map ..
theorem ZqM {α:Type} (g:Rat→α) {l:List RV} {i:Nat} {x:RV} (h:l[i]? =some x):List.map g (gdL (l.take (i+1)))=List.map g (gdL (l.take i))++ [g x.q]:=by
 rw [List.take_add_one,h];simp [gdL]
def wAt (L:List (List RV)) (i:Nat):List RV:=(L[i]?).getD []
theorem Zjk {L:List (List RV)} {i:Nat} {q:List RV} (h:L[i]? =some q):wAt L i=q:=by simp [wAt,h]
