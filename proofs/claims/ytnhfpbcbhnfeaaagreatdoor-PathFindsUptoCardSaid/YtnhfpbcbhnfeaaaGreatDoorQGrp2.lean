/- Joined by wip/bundle.py: XSingA XForcA XTrackA. -/
import Derived.Test.YtnhfpbcbhnfeaaaGreatDoorQForeA
import Derived.Test.YtnhfpbcbhnfeaaaGreatDoorQOpenA
namespace Go.Proofs.YtnhfpbcbhnfeaaaGreatDoor.eng
open Go.RowKit num mem seg q held ratA ratB ratC ratD ratE vars ratF trq
section
variable{K:AV->Prop}
def crs(l:List (Rat×Rat))(a b:Nat):Rat:=((l[a]?).getD (0,0)).1*((l[b]?).getD (0,0)).2-((l[a]?).getD (0,0)).2*((l[b]?).getD (0,0)).1
theorem crs_anti(l:List (Rat×Rat))(a b:Nat):crs l a b=-crs l b a:=by unfold crs;grind
end
section
variable{K:AV->Prop}
end
open argopen
section
variable{K:AV->Prop}
theorem drop_at{α:Type}{l:List α}{i:Nat}{y:α}(h:l[i]? =some y):l.drop i=y::l.drop (i+1):=by
 obtain⟨hi,rfl⟩:=gS h;exact List.drop_eq_getElem_cons hi
def tz(t:List (Int×List RV)):Prop:=t.length<=1048576/\∀k,k∈t->(-9223372036854775808<=k.1/\k.1<=9223372036854775807)/\k.2.length<=1048576/\∀x,x∈k.2->x.z<=1048577
end
