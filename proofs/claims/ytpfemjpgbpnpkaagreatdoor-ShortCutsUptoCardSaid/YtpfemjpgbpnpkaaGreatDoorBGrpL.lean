/- Joined by wip/bundle.py: XAbs XTck0 XWay0. -/
import Derived.Test.YtpfemjpgbpnpkaaGreatDoorBGrpA
import Derived.Test.YtpfemjpgbpnpkaaGreatDoorBGrpO
import Derived.Test.YtpfemjpgbpnpkaaGreatDoorBFore0
import Derived.Test.YtpfemjpgbpnpkaaGreatDoorBWg
namespace Go.Proofs.YtpfemjpgbpnpkaaGreatDoor.eng
open Go.RowKit num mem seg q held ratA ratB ratC ratD ratE vars ratF natC natD natI
section
variable {K : AV → Prop} {x : RV} {q : Rat}
end
end Go.Proofs.YtpfemjpgbpnpkaaGreatDoor.eng
namespace Go.Proofs.YtpfemjpgbpnpkaaGreatDoor.eng
open Go.RowKit num mem seg q held ratA ratB ratC ratD ratE vars ratF
def firstE (f:Nat→Int):Nat→Int
 |0=>0
 |n+1=>if firstE f n=0 then f n else firstE f n
theorem ZdO {f:Nat→Int}:∀ {n:Nat},(∀ j,j< n→f j=0)→firstE f n=0
 |0,_=>rfl
 |n+1,h=>by
  unfold firstE
  rw [if_pos (ZdO fun j hj=>h j (by omega)),h n (by omega)]
theorem Zes {f:Nat→Int} {i:Nat} (h:∀ j,j< i→f j=0) (hi:f i≠0):∀ {n:Nat},i< n→firstE f n=f i
 |0,hn=>absurd hn (by omega)
 |n+1,hn=>by
  unfold firstE
  by_cases e:i=n
  ·subst e;rw [if_pos (ZdO h)]
  ·rw [Zes h hi (n:=n) (by omega),if_neg hi]
end Go.Proofs.YtpfemjpgbpnpkaaGreatDoor.eng
namespace Go.Proofs.YtpfemjpgbpnpkaaGreatDoor.eng
open Go.RowKit num mem seg q held ratA ratB ratC ratD ratE vars ratF
def rdrs (q:List RV):List D:= [D.list (List.map rd q)]
def rdcs (q:List Rat):List D:= [D.list (List.map rdc q)]
def gdL (l:List RV):List Rat:=l.map RV.q
theorem Zin (l:List RV):(gdL l).length=l.length:=List.length_map ..
theorem ZjM {α:Type} (g:Rat→α) {l:List RV} {i:Nat} {x:RV} (h:l[i]? =some x):List.map g (gdL (l.take (i+1)))=List.map g (gdL (l.take i))++ [g x.q]:=by
 rw [List.take_add_one,h];simp [gdL]
def wAt (L:List (List RV)) (i:Nat):List RV:=(L[i]?).getD []
theorem Zal {L:List (List RV)} {i:Nat} {q:List RV} (h:L[i]? =some q):wAt L i=q:=by simp [wAt,h]
theorem Zer {f:Nat→Int}:∀ {n:Nat},firstE f n=0→∀ j,j< n→f j=0
 |0,_,j,hj=>by omega
 |n+1,h,j,hj=>by
  unfold firstE at h
  by_cases z:firstE f n=0
  ·rw [if_pos z] at h
   by_cases e:j=n
   ·rw [e];exact h
   ·exact Zer z j (by omega)
  ·rw [if_neg z] at h;exact absurd h z
end Go.Proofs.YtpfemjpgbpnpkaaGreatDoor.eng
