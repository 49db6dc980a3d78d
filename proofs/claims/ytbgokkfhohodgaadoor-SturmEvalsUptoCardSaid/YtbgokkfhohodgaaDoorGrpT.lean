/- Joined by wip/bundle.py: XTrq XEngTurn. -/
import Derived.Test.YtbgokkfhohodgaaDoorQ
import Derived.Test.YtbgokkfhohodgaaDoorEngU
set_option maxRecDepth 100000
namespace Go.Proofs.YtbgokkfhohodgaaDoor.trq
open q
end Go.Proofs.YtbgokkfhohodgaaDoor.trq
namespace Go.Proofs.YtbgokkfhohodgaaDoor.eng
open Go.RowKit num mem seg q held ratA ratB ratC ratD ratE vars ratF trq
section
variable {x y : RV} {h g : Bool} {K : AV → Prop}
theorem qs_0:qs ((0:Int):Rat)≤8:=ZaU (by decide) (by decide)
theorem Zkq (n:Int) (h1:-9223372036854775808≤n) (h2:n≤9223372036854775807):Spec Tryd.prog Tab 57 [int n] (rat (cn (n:Rat))):=by
 refine Zw Tryd.func57 rfl rfl Tryd.ntmps57 rfl (by kernel_rfl) rfl rfl ?_
 refine k_of _ (by omega) (by omega) fun q1 h1 z1=> ?_
 refine Eq.trans (b:=rat (cn _)) ?_ rfl
 subst_vars;rfl
theorem k_I (n:Int) (h1:-9223372036854775808≤n) (h2:n≤9223372036854775807) (k:∀ q,q=(n:Rat)→(cn q).z≤8→K (rat (cn q))):Ask 57 [int n] K:=
 use (Zkq n h1 h2) rfl (k _ rfl (by have:=ZaU h1 h2;rw [cn_z];omega))
theorem ZfS (n m:Int) (h1:-9223372036854775808≤n) (h2:n≤9223372036854775807) (h3:-9223372036854775808≤m) (h4:m≤9223372036854775807):Spec Tryd.prog Tab 97 [int n,int m] (two (rat (quotR (n:Rat) (m:Rat))) (int (quotE (m:Rat)))):=by
 refine Zu (Zt Tryd.func97 rfl rfl) rfl rfl fun w hT=> ?_
 refine(Zdq n m w h1 h2 h3 h4 hT).mono fun e w' ⟨u,c,f,k,he,hi,hb⟩=> ?_
 refine⟨he.trans ?_,hb⟩
 rcases hi with ⟨h5,rfl,rfl,rfl,rfl⟩|⟨h5,rfl,hi⟩
 ·simp only [quotR,quotE,if_pos h5,z0]
 ·obtain⟨rfl,rfl,rfl⟩:=Zck hi
  simp only [quotR,quotE,if_neg h5]
theorem ZiZ (n m:Int) (h1:-9223372036854775808≤n) (h2:n≤9223372036854775807) (h3:-9223372036854775808≤m) (h4:m≤9223372036854775807) (h0:(m:Rat)≠0) (k:∀ q,q=(n:Rat) / (m:Rat)→(cn q).z≤17→K (two (rat (cn q)) (int 0))):Ask 97 [int n,int m] K:=
 use (by have:=ZfS n m h1 h2 h3 h4;simp only [quotR,quotE,if_neg h0] at this;exact this) rfl (k _ rfl (by have:=ZgR (n:Rat) (m:Rat);have:=ZaU h1 h2;have:=ZaU h3 h4;rw [cn_z];omega))
theorem ZcW:Spec Tryd.prog Tab 54 [] (bool true):=
 Zu (Zt Tryd.func54 rfl rfl) rfl rfl fun w hT=>Zdo w hT
theorem Zf3 (K1:K (bool true)):Ask 54 [] K:=use ZcW rfl K1
theorem Zic (n m:Int) (h1:-9223372036854775808≤n) (h2:n≤9223372036854775807) (h3:-9223372036854775808≤m) (h4:m≤9223372036854775807) (hm:(m:Rat)≠0):Spec Tryd.prog Tab 79 [int n,int m] (rat (cn ((n:Rat) / (m:Rat)))):=by
 refine Zw Tryd.func79 rfl rfl Tryd.ntmps79 rfl (by kernel_rfl) rfl rfl ?_
 refine ZiZ _ _ (by omega) (by omega) (by omega) (by omega) hm fun q1 h1 z1=> ?_
 refine Eq.trans (b:=rat (cn _)) ?_ rfl
 subst_vars;rfl
theorem Zey (n m:Int) (h1:-9223372036854775808≤n) (h2:n≤9223372036854775807) (h3:-9223372036854775808≤m) (h4:m≤9223372036854775807) (h0:(m:Rat)≠0) (k:∀ q,q=(n:Rat) / (m:Rat)→(cn q).z≤17→K (rat (cn q))):Ask 79 [int n,int m] K:=
 use (Zic n m h1 h2 h3 h4 h0) rfl (k _ rfl (by have:=ZgR (n:Rat) (m:Rat);have:=ZaU h1 h2;have:=ZaU h3 h4;rw [cn_z];omega))
end
end Go.Proofs.YtbgokkfhohodgaaDoor.eng
