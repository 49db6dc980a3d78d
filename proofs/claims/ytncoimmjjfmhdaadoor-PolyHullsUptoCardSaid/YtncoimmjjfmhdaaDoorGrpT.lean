/- Joined by wip/bundle.py: XTrq XEngTurn. -/
import Derived.Test.YtncoimmjjfmhdaaDoorQ
import Derived.Test.YtncoimmjjfmhdaaDoorEngU
set_option maxRecDepth 100000
namespace Go.Proofs.YtncoimmjjfmhdaaDoor.trq
open q
end Go.Proofs.YtncoimmjjfmhdaaDoor.trq
namespace Go.Proofs.YtncoimmjjfmhdaaDoor.eng
open Go.RowKit num mem seg q held ratA ratB ratC ratD ratE vars ratF trq
section
variable {x y : RV} {h g : Bool} {K : AV → Prop}
theorem ZlJ (n:Int) (h1:-9223372036854775808≤n) (h2:n≤9223372036854775807):Spec Tryd.prog Tab 26 [int n] (rat (cn (n:Rat))):=by
 refine Zt Tryd.func26 rfl rfl Tryd.ntmps26 rfl (by kernel_rfl) rfl rfl ?_
 refine k_of _ (by omega) (by omega) fun q1 h1 z1=> ?_
 refine Eq.trans (b:=rat (cn _)) ?_ rfl
 subst_vars;rfl
theorem k_I (n:Int) (h1:-9223372036854775808≤n) (h2:n≤9223372036854775807) (k:∀ q,q=(n:Rat)→(cn q).z≤8→K (rat (cn q))):Ask 26 [int n] K:=
 use (ZlJ n h1 h2) rfl (k _ rfl (by have:=ZcX h1 h2;rw [cn_z];omega))
theorem ZgK (x:RV) (hx:x.z≤68719476736):Spec Tryd.prog Tab 34 [rat x] (rat (cn x.q)):=by
 refine Zt Tryd.func34 rfl rfl Tryd.ntmps34 rfl (by kernel_rfl) rfl rfl ?_
 refine k_I (0) (by omega) (by omega) fun q1 h1 z1=> ?_
 refine Zin (by omega) (by omega) fun q2 h2 z2=> ?_
 try simp only [cn_q] at h2
 refine⟨by kernel_rfl,?_⟩
 refine Eq.trans (b:=rat (cn _)) ?_ rfl
 subst_vars;simp only [Rat.intCast_zero,Rat.add_zero]
theorem Zil (hx:x.z≤68719476736) (k:∀ q,q=x.q→(cn q).z≤x.z+1→K (rat (cn q))):Ask 34 [rat x] K:=
 use (ZgK x hx) rfl (k _ rfl (by have:=x.z1;rw [cn_z];omega))
theorem ZgH (n m:Int) (h1:-9223372036854775808≤n) (h2:n≤9223372036854775807) (h3:-9223372036854775808≤m) (h4:m≤9223372036854775807):Spec Tryd.prog Tab 47 [int n,int m] (two (rat (quotR (n:Rat) (m:Rat))) (int (quotE (m:Rat)))):=by
 refine ZV (ZA Tryd.func47 rfl rfl) rfl rfl fun w hT=> ?_
 refine(Zd6 n m w h1 h2 h3 h4 hT).mono fun e w' ⟨u,c,f,k,he,hi,hb⟩=> ?_
 refine⟨he.trans ?_,hb⟩
 rcases hi with ⟨h5,rfl,rfl,rfl,rfl⟩|⟨h5,rfl,hi⟩
 ·simp only [quotR,quotE,if_pos h5,z0]
 ·obtain⟨rfl,rfl,rfl⟩:=Zip hi
  simp only [quotR,quotE,if_neg h5]
theorem ZlC (n m:Int) (h1:-9223372036854775808≤n) (h2:n≤9223372036854775807) (h3:-9223372036854775808≤m) (h4:m≤9223372036854775807) (h0:(m:Rat)≠0) (k:∀ q,q=(n:Rat) / (m:Rat)→(cn q).z≤17→K (two (rat (cn q)) (int 0))):Ask 47 [int n,int m] K:=
 use (by have:=ZgH n m h1 h2 h3 h4;simp only [quotR,quotE,if_neg h0] at this;exact this) rfl (k _ rfl (by have:=Zln (n:Rat) (m:Rat);have:=ZcX h1 h2;have:=ZcX h3 h4;rw [cn_z];omega))
theorem Zds:Spec Tryd.prog Tab 23 [] (bool true):=
 ZV (ZA Tryd.func23 rfl rfl) rfl rfl fun w hT=>Zd5 w hT
theorem ZgT (K1:K (bool true)):Ask 23 [] K:=use Zds rfl K1
end
end Go.Proofs.YtncoimmjjfmhdaaDoor.eng
