/- Joined by wip/bundle.py: XAbs XTck0 XWay0. -/
import Derived.Test.YtpfhmelgcdgoeaaGreatDoorQGrpM
namespace Go.Proofs.YtpfhmelgcdgoeaaGreatDoor.eng
open Go.RowKit num mem seg q held ratA ratB ratC ratD ratE vars ratF natC natD natI
section
variable {K : AV → Prop} {x : RV} {q : Rat}
def absV (p:Rat):Rat:=if p.num< 0 then -p else p
theorem Zuk (p:Rat):cn (absV p)=⟨false,(cn p).a,(cn p).d⟩:=by
 unfold absV cn
 split
 ·rename_i h
  rw [Rat.neg_num,Rat.neg_den,Int.natAbs_neg,decide_eq_false ω]
 ·rename_i h
  rw [decide_eq_false h]
theorem ZnL (p:Rat):qs (absV p)=qs p:=by
 unfold absV
 split
 ·exact Zb6 p
 ·rfl
theorem Zky (hx:x.z≤4398046511104) (k:∀ q,q=absV x.q→(cn q).z≤x.z+1→K (rat (cn q))):Ask 30 [rat x] K:=by
 refine use (r:=rat (cn (absV x.q))) ?_ rfl (k _ rfl (by have:=x.z1;rw [cn_z,ZnL];omega))
 refine Za Tryz.func30 rfl rfl Tryz.ntmps30 rfl ωr rfl rfl ?_
 refine ZvZ ω fun q h z=> ?_
 refine Eq.trans (b:=rat ⟨false,(cn q).a,(cn q).d⟩) ?_ rfl
 rw [Zuk,h]
end
def firstE (f:Nat→Int):Nat→Int
 |0=>0
 |n+1=>if firstE f n=0 then f n else firstE f n
theorem ZcQ {f:Nat→Int}:∀ {n:Nat},(∀ j,j< n→f j=0)→firstE f n=0
 |0,_=>rfl
 |n+1,h=>by
  unfold firstE
  rw [if_pos (ZcQ fun j hj=>h j ω),h n ω]
theorem ZcP {f:Nat→Int} {i:Nat} (h:∀ j,j< i→f j=0) (hi:f i≠0):∀ {n:Nat},i< n→firstE f n=f i
 |0,hn=>absurd hn ω
 |n+1,hn=>by
  unfold firstE
  by_cases e:i=n
  ·subst e;rw [if_pos (ZcQ h)]
  ·rw [ZcP h hi (n:=n) ω,if_neg hi]
theorem Zgp {A:ArmV} {q:List RV} (h:fitsE A q=0):q.length=A.links.length∧armE A=0:=by
 unfold fitsE at h
 by_cases g:hasE A (q.length:Int)=0
 ·obtain⟨h1,h2⟩:=Z3.1 g
  exact⟨ω,h1⟩
 ·rw [if_neg g] at h;exact absurd h g
def rdrs (q:List RV):List D:= [D.list (List.map rd q)]
def rdcs (q:List Rat):List D:= [D.list (List.map rdc q)]
def gdL (l:List RV):List Rat:=l.map RV.q
theorem ZiZ (l:List RV):(gdL l).length=l.length:=List.length_map ..
theorem ZkC {α:Type} (g:Rat→α) {l:List RV} {i:Nat} {x:RV} (h:l[i]? =some x):List.map g (gdL (l.take (i+1)))=List.map g (gdL (l.take i))++ [g x.q]:=by
 rw [List.take_add_one,h];simp [gdL]
def wAt (L:List (List RV)) (i:Nat):List RV:=(L[i]?).getD []
theorem ZH {L:List (List RV)} {i:Nat} {q:List RV} (h:L[i]? =some q):wAt L i=q:=by simp [wAt,h]
theorem Zev {f:Nat→Int}:∀ {n:Nat},firstE f n=0→∀ j,j< n→f j=0
 |0,_,j,hj=>ω
 |n+1,h,j,hj=>by
  unfold firstE at h
  by_cases z:firstE f n=0
  ·rw [if_pos z] at h
   by_cases e:j=n
   ·rw [e];exact h
   ·exact Zev z j ω
  ·rw [if_neg z] at h;exact absurd h z
