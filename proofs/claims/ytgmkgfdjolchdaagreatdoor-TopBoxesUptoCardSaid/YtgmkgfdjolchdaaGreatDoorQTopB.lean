/- gantmake.at, poly, Poly. Printed by wip/gp_top.py. -/
import Derived.Test.YtgmkgfdjolchdaaGreatDoorQGrpTa
namespace Go.Proofs.YtgmkgfdjolchdaaGreatDoor.eng
open Go.RowKit num mem seg q held ratA ratB ratC ratD ratE vars ratF prf natC natD natI sub32
section
variable {K : AV → Prop}
theorem ZvN (l:List Int) (n:Int) (hl:∀ x,x∈l→-9223372036854775808≤x∧x≤9223372036854775807) (hn:1≤n∧n≤1073741824):SpecV Tryz.prog Tab 56 [.val (.one (.ptr 1000 0)),int n] 78 [D.list (List.map stD l)] (int (nextV l n)) [D.list (List.map stD (nextL l n))]:=by
 cases l with
 |nil=>exact ZtV [] rfl n
 |cons x l=>
  have h:=ZtU x l (x :: l) rfl n (hl x List.mem_cons_self) hn
  rw [show nextV (x :: l) n=x % n from if_neg ω,show nextL (x :: l) n=l from if_neg ω]
  exact h
def qtr (x:Int):Rat:=(x:Rat) / ((4:Nat):Rat)
set_option maxRecDepth 100000 in
theorem ZeA (x y:Int) (hx:-256< x∧x< 256) (hy:-256< y∧y< 256):Spec Tryz.prog Tab 55 [int x,int y] (pair (cn (qtr x)) (cn (qtr y))):=by
 refine Za Tryz.func55 rfl rfl Tryz.ntmps55 rfl ωr rfl rfl ?_
 refine use (Zgj x 4 ω ωd) rfl ?_
 refine use (Zgj y 4 ω ωd) rfl ?_
 refine Eq.trans (b:=pair (cn (qtr x)) (cn (qtr y))) ?_ rfl
 rfl
theorem ZiR {K:AV→Prop} {x y:Int} (a b:Int) (hx:x=a) (hy:y=b) (ha:-256< a∧a< 256) (hb:-256< b∧b< 256) (k:K (pair (cn (qtr a)) (cn (qtr b)))):Ask 55 [int x,int y] K:=by subst hx hy;exact use (ZeA x y ha hb) rfl k
def hM (l:List Int):Int:=1+nextV (nextL l 6) 6
end
