/- Joined by wip/bundle.py: XTrq XEngTurn. -/
import Derived.Test.YtbgokkfhohodgaaGreatDoorQ
import Derived.Test.YtbgokkfhohodgaaGreatDoorEngU
set_option maxRecDepth 100000
namespace Go.Proofs.YtbgokkfhohodgaaGreatDoor.trq
open q
end Go.Proofs.YtbgokkfhohodgaaGreatDoor.trq
namespace Go.Proofs.YtbgokkfhohodgaaGreatDoor.eng
open Go.RowKit num mem seg q held ratA ratB ratC ratD ratE vars ratF trq
section
variable {x y : RV} {h g : Bool} {K : AV → Prop}
theorem qs_0:qs ((0:Int):Rat)≤8:=Zbb (by decide) (by decide)
theorem ZlD (n:Int) (h1:-9223372036854775808≤n) (h2:n≤9223372036854775807):Spec Tryz.prog Tab 24 [int n] (rat (cn (n:Rat))):=by
 refine Zy Tryz.func24 rfl rfl Tryz.ntmps24 rfl (by kernel_rfl) rfl rfl ?_
 refine k_of _ (by omega) (by omega) fun q1 h1 z1=> ?_
 refine Eq.trans (b:=rat (cn _)) ?_ rfl
 subst_vars;rfl
theorem k_I (n:Int) (h1:-9223372036854775808≤n) (h2:n≤9223372036854775807) (k:∀ q,q=(n:Rat)→(cn q).z≤8→K (rat (cn q))):Ask 24 [int n] K:=
 use (ZlD n h1 h2) rfl (k _ rfl (by have:=Zbb h1 h2;rw [cn_z];omega))
theorem ZgT (n m:Int) (h1:-9223372036854775808≤n) (h2:n≤9223372036854775807) (h3:-9223372036854775808≤m) (h4:m≤9223372036854775807):Spec Tryz.prog Tab 131 [int n,int m] (two (rat (quotR (n:Rat) (m:Rat))) (int (quotE (m:Rat)))):=by
 refine Zn (Zr Tryz.func131 rfl rfl) rfl rfl fun w hT=> ?_
 refine(Zep n m w h1 h2 h3 h4 hT).mono fun e w' ⟨u,c,f,k,he,hi,hb⟩=> ?_
 refine⟨he.trans ?_,hb⟩
 rcases hi with ⟨h5,rfl,rfl,rfl,rfl⟩|⟨h5,rfl,hi⟩
 ·simp only [quotR,quotE,if_pos h5,z0]
 ·obtain⟨rfl,rfl,rfl⟩:=Zc2 hi
  simp only [quotR,quotE,if_neg h5]
theorem Zke (n m:Int) (h1:-9223372036854775808≤n) (h2:n≤9223372036854775807) (h3:-9223372036854775808≤m) (h4:m≤9223372036854775807) (h0:(m:Rat)≠0) (k:∀ q,q=(n:Rat) / (m:Rat)→(cn q).z≤17→K (two (rat (cn q)) (int 0))):Ask 131 [int n,int m] K:=
 use (by have:=ZgT n m h1 h2 h3 h4;simp only [quotR,quotE,if_neg h0] at this;exact this) rfl (k _ rfl (by have:=ZfY (n:Rat) (m:Rat);have:=Zbb h1 h2;have:=Zbb h3 h4;rw [cn_z];omega))
theorem ZdG:Spec Tryz.prog Tab 92 [] (bool true):=
 Zn (Zr Tryz.func92 rfl rfl) rfl rfl fun w hT=>Zen w hT
theorem Zg7 (K1:K (bool true)):Ask 92 [] K:=use ZdG rfl K1
theorem ZjD (n m:Int) (h1:-9223372036854775808≤n) (h2:n≤9223372036854775807) (h3:-9223372036854775808≤m) (h4:m≤9223372036854775807) (hm:(m:Rat)≠0):Spec Tryz.prog Tab 69 [int n,int m] (rat (cn ((n:Rat) / (m:Rat)))):=by
 refine Zy Tryz.func69 rfl rfl Tryz.ntmps69 rfl (by kernel_rfl) rfl rfl ?_
 refine Zke _ _ (by omega) (by omega) (by omega) (by omega) hm fun q1 h1 z1=> ?_
 refine Eq.trans (b:=rat (cn _)) ?_ rfl
 subst_vars;rfl
theorem Zg9 (n m:Int) (h1:-9223372036854775808≤n) (h2:n≤9223372036854775807) (h3:-9223372036854775808≤m) (h4:m≤9223372036854775807) (h0:(m:Rat)≠0) (k:∀ q,q=(n:Rat) / (m:Rat)→(cn q).z≤17→K (rat (cn q))):Ask 69 [int n,int m] K:=
 use (ZjD n m h1 h2 h3 h4 h0) rfl (k _ rfl (by have:=ZfY (n:Rat) (m:Rat);have:=Zbb h1 h2;have:=Zbb h3 h4;rw [cn_z];omega))
end
end Go.Proofs.YtbgokkfhohodgaaGreatDoor.eng
