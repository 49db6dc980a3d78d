/- Joined by wip/bundle.py: XEngL XEngSpan XEngAro XEngSpan2 XEngSweep XEngBound. -/
import Derived.Test.YtncoimmjjfmhdaaDoorEngU
import Derived.Test.YtncoimmjjfmhdaaDoorGrpT
set_option maxRecDepth 100000
namespace Go.Proofs.YtncoimmjjfmhdaaDoor.eng
open Go.RowKit num mem seg q held ratA ratB ratC ratD ratE vars ratF
def rd (x:RV):List D:= [.v (.bool x.s),.v (.string x.a),.v (.string x.d)]
section
variable {K : AV → Prop}
theorem wrap64 (n:Int) (h1:-9223372036854775808≤n) (h2:n≤9223372036854775807):IntKind.i64.wrap n=n:=by
 unfold IntKind.wrap
 simp [IntKind.signed,IntKind.bits]
 split<;>omega
end
end Go.Proofs.YtncoimmjjfmhdaaDoor.eng
namespace Go.Proofs.YtncoimmjjfmhdaaDoor.eng
open Go.RowKit num mem seg q held ratA ratB ratC ratD ratE vars ratF trq
section
variable {x y z t : RV} {h g : Bool} {K : AV → Prop}
def sgd (x y:RV):Prop:=x.good∧y.good∧x.q≤y.q
instance (x y:RV):Decidable (sgd x y):=inferInstanceAs (Decidable (x.good∧y.good∧x.q≤y.q))
def hasQ (l h a:Rat):Bool:=decide (l≤a)&&decide (a≤h)
theorem hl (a b c:Rat) (h:a< b):hasQ a c b=decide (b≤c):=by simp [hasQ,Rat.le_of_lt h]
theorem he (a b c:Rat) (h:a=b):hasQ a c b=decide (b≤c):=by simp [hasQ,h]
theorem hg (a b c:Rat) (h:b< a):hasQ a c b=false:=by simp [hasQ,Rat.not_le.2 h]
theorem hl' (a b c:Rat) (h:a< b):hasQ b c a=false:=hg _ _ _ h
end
end Go.Proofs.YtncoimmjjfmhdaaDoor.eng
namespace Go.Proofs.YtncoimmjjfmhdaaDoor.eng
open Go.RowKit num mem seg q held ratA ratB ratC ratD ratE vars ratF trq
section
variable {x y z t : RV} {K : AV → Prop}
def fv (g:FuncId):AV:= .val (.one (.d (.v (.func (.func g) #[] #[]))))
end
end Go.Proofs.YtncoimmjjfmhdaaDoor.eng
namespace Go.Proofs.YtncoimmjjfmhdaaDoor.eng
open Go.RowKit num mem seg q held ratA ratB ratC ratD ratE vars ratF trq
section
variable {x y z t : RV} {K : AV → Prop}
end
end Go.Proofs.YtncoimmjjfmhdaaDoor.eng
namespace Go.Proofs.YtncoimmjjfmhdaaDoor.eng
open Go.RowKit num mem seg q held ratA ratB ratC ratD ratE vars ratF trq
section
variable {x y z t u v w : RV} {K : AV → Prop}
theorem Zhm (x y z t:RV) (hx:x.z≤1099511627776) (hy:y.z≤1099511627776) (hz:z.z≤1099511627776) (ht:t.z≤1099511627776):Spec Tryd.prog Tab 27 [pair x y,pair z t] (pair (cn (x.q+z.q)) (cn (y.q+t.q))):=by
 refine Zt Tryd.func27 rfl rfl Tryd.ntmps27 rfl (by kernel_rfl) rfl rfl ?_
 refine Zin (by omega) (by omega) fun q1 h1 z1=> ?_
 try simp only [cn_q] at h1
 refine Zin (by omega) (by omega) fun q2 h2 z2=> ?_
 try simp only [cn_q] at h2
 refine⟨by kernel_rfl,?_⟩
 refine Eq.trans (b:=pair (cn _) (cn _)) ?_ rfl
 subst_vars;rfl
theorem ZlB (hx:x.z≤1099511627776) (hy:y.z≤1099511627776) (hz:z.z≤1099511627776) (ht:t.z≤1099511627776) (k:∀ p q,p=x.q+z.q→q=y.q+t.q→(cn p).z≤x.z+z.z+3→(cn q).z≤y.z+t.z+3→K (pair (cn p) (cn q))):Ask 27 [pair x y,pair z t] K:=
 use (Zhm x y z t hx hy hz ht) rfl (k _ _ rfl rfl (by have:=ZcY x.q z.q;have:=x.z1;have:=y.z1;have:=z.z1;have:=t.z1;rw [cn_z];omega) (by have:=ZcY y.q t.q;have:=x.z1;have:=y.z1;have:=z.z1;have:=t.z1;rw [cn_z];omega))
theorem Zhl (x y z t:RV) (hx:x.z≤1099511627776) (hy:y.z≤1099511627776) (hz:z.z≤1099511627776) (ht:t.z≤1099511627776):Spec Tryd.prog Tab 95 [pair x y,pair z t] (pair (cn (x.q - z.q)) (cn (y.q - t.q))):=by
 refine Zt Tryd.func95 rfl rfl Tryd.ntmps95 rfl (by kernel_rfl) rfl rfl ?_
 refine Zeq (by omega) (by omega) fun q1 h1 z1=> ?_
 try simp only [cn_q] at h1
 refine Zeq (by omega) (by omega) fun q2 h2 z2=> ?_
 try simp only [cn_q] at h2
 refine⟨by kernel_rfl,?_⟩
 refine Eq.trans (b:=pair (cn _) (cn _)) ?_ rfl
 subst_vars;rfl
theorem Zkd (hx:x.z≤1099511627776) (hy:y.z≤1099511627776) (hz:z.z≤1099511627776) (ht:t.z≤1099511627776) (k:∀ p q,p=x.q - z.q→q=y.q - t.q→(cn p).z≤x.z+z.z+3→(cn q).z≤y.z+t.z+3→K (pair (cn p) (cn q))):Ask 95 [pair x y,pair z t] K:=
 use (Zhl x y z t hx hy hz ht) rfl (k _ _ rfl rfl (by have:=ZbK x.q z.q;have:=x.z1;have:=y.z1;have:=z.z1;have:=t.z1;rw [cn_z];omega) (by have:=ZbK y.q t.q;have:=x.z1;have:=y.z1;have:=z.z1;have:=t.z1;rw [cn_z];omega))
theorem Zk8 (x y z t:RV) (hx:x.z≤1099511627776) (hy:y.z≤1099511627776) (hz:z.z≤1099511627776) (ht:t.z≤1099511627776):Spec Tryd.prog Tab 64 [pair x y,pair z t] (pair (cn (z.q - x.q)) (cn (t.q - y.q))):=by
 refine Zt Tryd.func64 rfl rfl Tryd.ntmps64 rfl (by kernel_rfl) rfl rfl ?_
 refine Zeq (by omega) (by omega) fun q1 h1 z1=> ?_
 try simp only [cn_q] at h1
 refine Zeq (by omega) (by omega) fun q2 h2 z2=> ?_
 try simp only [cn_q] at h2
 refine⟨by kernel_rfl,?_⟩
 refine Eq.trans (b:=pair (cn _) (cn _)) ?_ rfl
 subst_vars;rfl
theorem k_RV (hx:x.z≤1099511627776) (hy:y.z≤1099511627776) (hz:z.z≤1099511627776) (ht:t.z≤1099511627776) (k:∀ p q,p=z.q - x.q→q=t.q - y.q→(cn p).z≤x.z+z.z+3→(cn q).z≤y.z+t.z+3→K (pair (cn p) (cn q))):Ask 64 [pair x y,pair z t] K:=
 use (Zk8 x y z t hx hy hz ht) rfl (k _ _ rfl rfl (by have:=ZbK z.q x.q;have:=x.z1;have:=y.z1;have:=z.z1;have:=t.z1;rw [cn_z];omega) (by have:=ZbK t.q y.q;have:=x.z1;have:=y.z1;have:=z.z1;have:=t.z1;rw [cn_z];omega))
end
end Go.Proofs.YtncoimmjjfmhdaaDoor.eng
namespace Go.Proofs.YtncoimmjjfmhdaaDoor.eng
open Go.RowKit num mem seg q held ratA ratB ratC ratD ratE vars ratF trq
section
variable {x y z t : RV} {K : AV → Prop}
def rdv (p:RV×RV):List D:=rd p.1++rd p.2
def vecs (l:List (RV×RV)):AV:= .val (.one (.d (.list (l.map rdv))))
end
end Go.Proofs.YtncoimmjjfmhdaaDoor.eng
