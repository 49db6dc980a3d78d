/- Joined by wip/bundle.py: XRefZ XArmR. -/
import Derived.Test.YtgmkgfdjolchdaaGreatDoorQGrpM
import Derived.Shelf.Strings.SlTrimAscii
namespace Go.Proofs.YtgmkgfdjolchdaaGreatDoor.eng
open Go.RowKit num mem seg q held ratA ratB ratC ratD ratE vars ratF natC natD natI sub32
def loose (x y z t u v a b:RV):AV:= .val (.agg [.d (.v (.bool x.s)),.d (.v (.string x.a)),.d (.v (.string x.d)),.d (.v (.bool y.s)),.d (.v (.string y.a)),.d (.v (.string y.d)),.d (.v (.bool z.s)),.d (.v (.string z.a)),.d (.v (.string z.d)),.d (.v (.bool t.s)),.d (.v (.string t.a)),.d (.v (.string t.d)),
 .d (.v (.bool u.s)),.d (.v (.string u.a)),.d (.v (.string u.d)),.d (.v (.bool v.s)),.d (.v (.string v.a)),.d (.v (.string v.d)),.d (.v (.bool a.s)),.d (.v (.string a.a)),.d (.v (.string a.d)),.d (.v (.bool b.s)),.d (.v (.string b.a)),.d (.v (.string b.d))])
section
variable {K : AV → Prop} {x : RV}
end
open Go.RowKit num mem seg q held ratA ratB ratC ratD ratE vars ratF natC natD natI sub32
section
variable {K : AV → Prop}
section
variable  {p q r u : Rat}
end
section
variable  {p q r u : Rat}
end
section
variable  {p q r u : Rat}
end
end
