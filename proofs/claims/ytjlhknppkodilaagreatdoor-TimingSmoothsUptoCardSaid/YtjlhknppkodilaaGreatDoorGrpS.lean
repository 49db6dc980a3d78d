/- Joined by wip/bundle.py: XEngL XEngSpan XEngAro XEngSpan2 XEngSweep XEngBound. -/
import Derived.Test.YtjlhknppkodilaaGreatDoorGrpEn
import Derived.Test.YtjlhknppkodilaaGreatDoorGrpT
namespace Go.Proofs.YtjlhknppkodilaaGreatDoor.eng
open Go.RowKit num mem seg q held ratA ratB ratC ratD ratE vars ratF
def rd (x:RV):List D:= [.v (.bool x.s),.v (.string x.a),.v (.string x.d)]
def rats (l:List Rat):AV:= .val (.one (.d (.list (l.map fun q=>rd (cn q)))))
section
variable {K : AV → Prop}
theorem k_at {xs:List (List D)} {m:Int} {n:Nat} (cs:List D) (h0:0≤m) (h:xs[m.toNat]? =some cs) (hl:cs.length=n) (k:K (.val (.one (.ref cs)))):
  ∃ r,(∃ cs,0≤m∧xs[m.toNat]? =some cs∧cs.length=n∧r= .val (.one (.ref cs)))∧K r:=⟨_,⟨cs,h0,h,hl,rfl⟩,k⟩
theorem wrap64 (n:Int) (h1:-9223372036854775808≤n) (h2:n≤9223372036854775807):IntKind.i64.wrap n=n:=by
 unfold IntKind.wrap
 simp [IntKind.signed,IntKind.bits]
 split<;>omega
end
end Go.Proofs.YtjlhknppkodilaaGreatDoor.eng
namespace Go.Proofs.YtjlhknppkodilaaGreatDoor.eng
open Go.RowKit num mem seg q held ratA ratB ratC ratD ratE vars ratF trq
section
variable {x y z t : RV} {h g : Bool} {K : AV → Prop}
def sgd (x y:RV):Prop:=x.good∧y.good∧x.q≤y.q
instance (x y:RV):Decidable (sgd x y):=inferInstanceAs (Decidable (x.good∧y.good∧x.q≤y.q))
def hasQ (l h a:Rat):Bool:=decide (l≤a)&&decide (a≤h)
theorem hl (a b c:Rat) (h:a< b):hasQ a c b=decide (b≤c):=by simp [hasQ,Rat.le_of_lt h]
theorem he (a b c:Rat) (h:a=b):hasQ a c b=decide (b≤c):=by simp [hasQ,h]
theorem hg (a b c:Rat) (h:b< a):hasQ a c b=false:=by simp [hasQ,Rat.not_le.2 h]
theorem hl' (a b c:Rat) (h:a< b):hasQ b c a=false:=hg _ _ _ h
end
end Go.Proofs.YtjlhknppkodilaaGreatDoor.eng
namespace Go.Proofs.YtjlhknppkodilaaGreatDoor.eng
open Go.RowKit num mem seg q held ratA ratB ratC ratD ratE vars ratF trq
section
variable {x y z t : RV} {K : AV → Prop}
end
end Go.Proofs.YtjlhknppkodilaaGreatDoor.eng
namespace Go.Proofs.YtjlhknppkodilaaGreatDoor.eng
open Go.RowKit num mem seg q held ratA ratB ratC ratD ratE vars ratF trq
section
variable {x y z t : RV} {K : AV → Prop}
end
end Go.Proofs.YtjlhknppkodilaaGreatDoor.eng
namespace Go.Proofs.YtjlhknppkodilaaGreatDoor.eng
open Go.RowKit num mem seg q held ratA ratB ratC ratD ratE vars ratF trq
section
variable {x y z t u v w : RV} {K : AV → Prop}
set_option maxRecDepth 100000 in
theorem ZjN (x y z t:RV) (hx:x.z≤1099511627776) (hy:y.z≤1099511627776) (hz:z.z≤1099511627776) (ht:t.z≤1099511627776):Spec Tryz.prog Tab 129 [pair x y,pair z t] (pair (cn (x.q - z.q)) (cn (y.q - t.q))):=by
 refine Zf Tryz.func129 rfl rfl Tryz.ntmps129 rfl (by kernel_rfl) rfl rfl ?_
 refine Zlf (by omega) (by omega) fun q1 h1 z1=> ?_
 try simp only [cn_q] at h1
 refine Zlf (by omega) (by omega) fun q2 h2 z2=> ?_
 try simp only [cn_q] at h2
 refine⟨by kernel_rfl,?_⟩
 refine Eq.trans (b:=pair (cn _) (cn _)) ?_ rfl
 subst_vars;rfl
theorem ZnK (hx:x.z≤1099511627776) (hy:y.z≤1099511627776) (hz:z.z≤1099511627776) (ht:t.z≤1099511627776) (k:∀ p q,p=x.q - z.q→q=y.q - t.q→(cn p).z≤x.z+z.z+3→(cn q).z≤y.z+t.z+3→K (pair (cn p) (cn q))):Ask 129 [pair x y,pair z t] K:=
 use (ZjN x y z t hx hy hz ht) rfl (k _ _ rfl rfl (by have:=Zcq x.q z.q;have:=x.z1;have:=y.z1;have:=z.z1;have:=t.z1;rw [cn_z];omega) (by have:=Zcq y.q t.q;have:=x.z1;have:=y.z1;have:=z.z1;have:=t.z1;rw [cn_z];omega))
end
end Go.Proofs.YtjlhknppkodilaaGreatDoor.eng
namespace Go.Proofs.YtjlhknppkodilaaGreatDoor.eng
open Go.RowKit num mem seg q held ratA ratB ratC ratD ratE vars ratF trq
section
variable {x y z t : RV} {K : AV → Prop}
def rdv (p:RV×RV):List D:=rd p.1++rd p.2
def vecs (l:List (RV×RV)):AV:= .val (.one (.d (.list (l.map rdv))))
theorem Ze0 (l:List Rat):∀ row,row∈(l.map fun q=>rd (cn q))→row.length=3:=by
 intro row hr
 obtain⟨q,_,rfl⟩:=List.mem_map.1 hr
 rfl
end
end Go.Proofs.YtjlhknppkodilaaGreatDoor.eng
