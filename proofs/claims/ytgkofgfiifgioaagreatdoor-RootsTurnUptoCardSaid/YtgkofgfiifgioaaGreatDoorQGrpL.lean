/- Joined by wip/bundle.py: XAbs XTck0. -/
import Derived.Test.YtgkofgfiifgioaaGreatDoorQGrpM
namespace Go.Proofs.YtgkofgfiifgioaaGreatDoor.eng
open Go.RowKit num mem seg q held ratA ratB ratC ratD ratE vars ratF natC natD natI
section
variable {K : AV → Prop} {x : RV} {q : Rat}
def absV (p:Rat):Rat:=if p.num< 0 then -p else p
theorem ZqT (p:Rat):cn (absV p)=⟨false,(cn p).a,(cn p).d⟩:=by
 unfold absV cn
 split
 ·rename_i h
  rw [Rat.neg_num,Rat.neg_den,Int.natAbs_neg,decide_eq_false ω]
 ·rename_i h
  rw [decide_eq_false h]
theorem ZpY (p:Rat):qs (absV p)=qs p:=by
 unfold absV
 split
 ·exact Zdl p
 ·rfl
theorem Ziw (hx:x.z≤4398046511104) (k:∀ q,q=absV x.q→(cn q).z≤x.z+1→K (rat (cn q))):Ask 50 [rat x] K:=by
 refine use (r:=rat (cn (absV x.q))) ?_ rfl (k _ rfl (by have:=x.z1;rw [cn_z,ZpY];omega))
 refine Zh Tryz.func50 rfl rfl Tryz.ntmps50 rfl ωr rfl rfl ?_
 refine Zso ω fun q h z=> ?_
 refine Eq.trans (b:=rat ⟨false,(cn q).a,(cn q).d⟩) ?_ rfl
 rw [ZqT,h]
end
