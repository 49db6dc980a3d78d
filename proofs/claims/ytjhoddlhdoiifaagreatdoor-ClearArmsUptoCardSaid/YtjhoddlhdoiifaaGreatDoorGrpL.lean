/- Joined by wip/bundle.py: XAbs XTck0. -/
import Derived.Test.YtjhoddlhdoiifaaGreatDoorGrpA
import Derived.Test.YtjhoddlhdoiifaaGreatDoorGrpO
import Derived.Test.YtjhoddlhdoiifaaGreatDoorFore0
/- Contracts: absolute values: rat.Abs, gantref3's Abs. -/
namespace Go.Proofs.YtjhoddlhdoiifaaGreatDoor.eng
open Go.RowKit num mem seg q held ratA ratB ratC ratD ratE vars ratF natC natD natI
section
variable {K : AV → Prop} {x : RV} {q : Rat}
end
end Go.Proofs.YtjhoddlhdoiifaaGreatDoor.eng

/- Plain law: what makes a track valid. No program. -/
namespace Go.Proofs.YtjhoddlhdoiifaaGreatDoor.eng
open Go.RowKit num mem seg q held ratA ratB ratC ratD ratE vars ratF
/-- the first number that is not 0 -/
def firstE (f : Nat → Int) : Nat → Int
  | 0 => 0
  | n + 1 => if firstE f n = 0 then f n else firstE f n
theorem firstE_0 {f : Nat → Int} : ∀ {n : Nat}, (∀ j, j < n → f j = 0) → firstE f n = 0
  | 0, _ => rfl
  | n + 1, h => by
    unfold firstE
    rw [if_pos (firstE_0 fun j hj => h j (by omega)), h n (by omega)]
theorem firstE_at {f : Nat → Int} {i : Nat} (h : ∀ j, j < i → f j = 0) (hi : f i ≠ 0) : ∀ {n : Nat}, i < n → firstE f n = f i
  | 0, hn => absurd hn (by omega)
  | n + 1, hn => by
    unfold firstE
    by_cases e : i = n
    · subst e; rw [if_pos (firstE_0 h)]
    · rw [firstE_at h hi (n := n) (by omega), if_neg hi]
end Go.Proofs.YtjhoddlhdoiifaaGreatDoor.eng

