/- Joined by wip/bundle.py: XTrq XEngTurn. -/
import Derived.Test.YtpfemjpgbpnpkaaGreatDoorCQ
import Derived.Test.YtpfemjpgbpnpkaaGreatDoorCEngU
namespace Go.Proofs.YtpfemjpgbpnpkaaGreatDoor.trq
open q
end Go.Proofs.YtpfemjpgbpnpkaaGreatDoor.trq
namespace Go.Proofs.YtpfemjpgbpnpkaaGreatDoor.eng
open Go.RowKit num mem seg q held ratA ratB ratC ratD ratE vars ratF trq
section
variable {x y : RV} {h g : Bool} {K : AV → Prop}
theorem ZhW (n m:Int) (h1:-9223372036854775808≤n) (h2:n≤9223372036854775807) (h3:-9223372036854775808≤m) (h4:m≤9223372036854775807):Spec Tryz.prog Tab 151 [int n,int m] (two (rat (quotR (n:Rat) (m:Rat))) (int (quotE (m:Rat)))):=by
 refine Zm (Zq Tryz.func151 rfl rfl) rfl rfl fun w hT=> ?_
 refine(Zjd n m w h1 h2 h3 h4 hT).mono fun e w' ⟨u,c,f,k,he,hi,hb⟩=> ?_
 refine⟨he.trans ?_,hb⟩
 rcases hi with ⟨h5,rfl,rfl,rfl,rfl⟩|⟨h5,rfl,hi⟩
 ·simp only [quotR,quotE,if_pos h5,z0]
 ·obtain⟨rfl,rfl,rfl⟩:=ZdA hi
  simp only [quotR,quotE,if_neg h5]
theorem Zmf (n m:Int) (h1:-9223372036854775808≤n) (h2:n≤9223372036854775807) (h3:-9223372036854775808≤m) (h4:m≤9223372036854775807) (h0:(m:Rat)≠0) (k:∀ q,q=(n:Rat) / (m:Rat)→(cn q).z≤17→K (two (rat (cn q)) (int 0))):Ask 151 [int n,int m] K:=
 use (by have:=ZhW n m h1 h2 h3 h4;simp only [quotR,quotE,if_neg h0] at this;exact this) rfl (k _ rfl (by have:=Zji (n:Rat) (m:Rat);have:=ZdR h1 h2;have:=ZdR h3 h4;rw [cn_z];omega))
end
end Go.Proofs.YtpfemjpgbpnpkaaGreatDoor.eng
