/- Joined by wip/bundle.py: XRefZ XArmR. -/
import Derived.Test.YtpfhmelgcdgoeaaGreatDoorQGrpM
import Derived.Shelf.Strings.SlTrimAscii
namespace Go.Proofs.YtpfhmelgcdgoeaaGreatDoor.eng
open Go.RowKit num mem seg q held ratA ratB ratC ratD ratE vars ratF natC natD natI sub32
def loose (x y z t u v a b:RV):AV:= .val (.agg [Xb x,Xs x,Xt x,Xb y,Xs y,Xt y,Xb z,Xs z,Xt z,Xb t,Xs t,Xt t,
 .d (.v (.bool u.s)),Xs u,Xt u,Xb v,Xs v,Xt v,Xb a,Xs a,Xt a,Xb b,Xs b,Xt b])
section
variable {K : AV → Prop} {x : RV}
end
open Go.RowKit num mem seg q held ratA ratB ratC ratD ratE vars ratF natC natD natI sub32
section
variable {K : AV → Prop}
section
variable  {p q r u : Rat}
end
section
variable  {p q r u : Rat}
end
section
variable  {p q r u : Rat}
end
end
