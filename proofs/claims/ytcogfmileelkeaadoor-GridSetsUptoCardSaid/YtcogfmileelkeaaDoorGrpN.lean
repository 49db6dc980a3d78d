/- Joined by wip/bundle.py: XEngN3 XEngN3b XSub32 XEngN3c XEngN3d XEngN3e XEngN3f XEngN3g XEngN3h XEngN3i. -/
import Derived.Test.YtcogfmileelkeaaDoorGrpS
import Derived.Test.YtcogfmileelkeaaDoorGrpA
import Derived.Test.YtcogfmileelkeaaDoorGrpC
import Derived.Test.YtcogfmileelkeaaDoorGrpD
namespace Go.Proofs.YtcogfmileelkeaaDoor.eng
open Go.RowKit num mem seg q held ratA ratB ratC ratD ratE vars ratF
def W (l:List Nat):List (List D):=l.map fun (x:Nat)=> [D.v (.int .u32 (x:Int))]
section
variable {K : AV → Prop} {a b n m : Nat}
theorem ZjL {src dst:TypeId} {x:Int} {k':IntKind} (hs:(Tryd.prog.underlying src).isSome=true) (hd:Tryd.prog.underlying dst=some (.int k')) (y:Int) (hy:y=k'.wrap x) (k:K (one (.int k' y))):
  ∃ r,(∃ k',(Tryd.prog.underlying src).isSome=true∧Tryd.prog.underlying dst=some (.int k')∧r=one (.int k' (k'.wrap x)))∧K r:=⟨_,⟨k',hs,hd,rfl⟩,by subst hy;exact k⟩
end
end Go.Proofs.YtcogfmileelkeaaDoor.eng
namespace Go.Proofs.YtcogfmileelkeaaDoor.eng
open Go.RowKit num mem seg q held ratA ratB ratC ratD ratE vars ratF
theorem wlen_mono {a b:Nat} (h:a≤b):wlen 4 a≤wlen 4 b:=(ZbB (by omega)).2 (Nat.lt_of_le_of_lt h (Za8 (by omega)))
theorem lt_B (n:Nat):n< 4294967296 ^ wlen 4 n:=by have:=@Za8 4 n (by omega);simpa using this
end Go.Proofs.YtcogfmileelkeaaDoor.eng
namespace Go.Proofs.YtcogfmileelkeaaDoor.sub32
open Go.RowKit num mem
end Go.Proofs.YtcogfmileelkeaaDoor.sub32
namespace Go.Proofs.YtcogfmileelkeaaDoor.eng
open Go.RowKit num mem seg q held ratA ratB ratC ratD ratE vars ratF sub32
theorem k_at_own' {K:AV→Prop} {xs:List (List D)} {m:Int} {o v n:Nat} (i:Nat) (hm:m=(i:Int)) (h:i< xs.length) (k:K (.val (.one (.rp o v n i 0)))):
  ∃ r,(0≤m∧m< (xs.length:Int)∧r= .val (.one (.rp o v n m.toNat 0)))∧K r:=⟨_,⟨by omega,by omega,rfl⟩,by subst hm;exact k⟩
end Go.Proofs.YtcogfmileelkeaaDoor.eng
namespace Go.Proofs.YtcogfmileelkeaaDoor.eng
open Go.RowKit num mem seg q held ratA ratB ratC ratD ratE vars ratF sub32
end Go.Proofs.YtcogfmileelkeaaDoor.eng
namespace Go.Proofs.YtcogfmileelkeaaDoor.eng
open Go.RowKit num mem seg q held ratA ratB ratC ratD ratE vars ratF sub32
theorem ZcQ {K:AV→Prop} {ty:Ty} {xs:List (List D)} {i n off:Nat} (ds:List D) (r:AV) (h:xs[i]? =some ds) (hl:ds.length=n) (hp:planIs (planCells ty (((ds.drop off).take ty.size).map .d)) r) (k:K r):
  ∃ r,(∃ ds,xs[i]? =some ds∧ds.length=n∧planIs (planCells ty (((ds.drop off).take ty.size).map .d)) r)∧K r:=⟨r,⟨ds,h,hl,hp⟩,k⟩
end Go.Proofs.YtcogfmileelkeaaDoor.eng
namespace Go.Proofs.YtcogfmileelkeaaDoor.eng
open Go.RowKit num mem seg q held ratA ratB ratC ratD ratE vars ratF sub32
section
variable {K : AV → Prop} {T : TypeId} {ox oy : Operand}
end
end Go.Proofs.YtcogfmileelkeaaDoor.eng
namespace Go.Proofs.YtcogfmileelkeaaDoor.eng
open Go.RowKit num mem seg q held ratA ratB ratC ratD ratE vars ratF sub32
theorem pow_two (e:Nat):(4294967296:Nat) ^ e=2 ^ (32*e):=by rw [show (4294967296:Nat)=2 ^ 32 from rfl,← Nat.pow_mul]
end Go.Proofs.YtcogfmileelkeaaDoor.eng
namespace Go.Proofs.YtcogfmileelkeaaDoor.eng
open Go.RowKit num mem seg q held ratA ratB ratC ratD ratE vars ratF sub32
def sz (n:Nat):Nat:=if wlen 4 n=0 then 0 else 32*(wlen 4 n - 1)+Lib.bitLen (n / 4294967296 ^ (wlen 4 n - 1) % 4294967296)
theorem Zhf (n:Nat):wlen 4 n=0↔n=0:=by
 constructor
 ·intro h
  have:=lt_B n
  rw [h] at this;simpa using this
 ·intro h;subst h;exact Nat.le_zero.1 ((ZbB (by omega)).2 (by decide))
theorem top_pos {n:Nat} (h:0< n):0< wlen 4 n∧0< n / 4294967296 ^ (wlen 4 n - 1)∧n / 4294967296 ^ (wlen 4 n - 1)< 4294967296:=by
 have h1:0< wlen 4 n:=Nat.pos_of_ne_zero (fun e=>by have:=(Zhf n).1 e;omega)
 have h2:4294967296 ^ (wlen 4 n - 1)≤n:=by
  apply Nat.le_of_not_lt
  intro hlt
  have:=(ZbB (s:=4) (n:=n) (k:=wlen 4 n - 1) (by omega)).2 (by simpa using hlt)
  omega
 have h3:=lt_B n
 obtain⟨m,hm⟩:∃ m,wlen 4 n=m+1:=⟨wlen 4 n - 1,by omega⟩
 rw [hm] at h2 h3 ⊢
 simp only [Nat.add_sub_cancel] at h2 ⊢
 refine⟨by omega,Nat.div_pos h2 (Nat.pow_pos (by omega)),?_⟩
 apply Nat.div_lt_of_lt_mul
 rw [Nat.pow_succ] at h3;exact h3
section
variable {K : AV → Prop} {a b : Nat}
end
end Go.Proofs.YtcogfmileelkeaaDoor.eng
namespace Go.Proofs.YtcogfmileelkeaaDoor.eng
open Go.RowKit num mem seg q held ratA ratB ratC ratD ratE vars ratF sub32
section
variable {K : AV → Prop} {T : TypeId} {ox oy : Operand} {a b : Nat}
def Y (l:List UInt8):List (List D):=l.map fun (x:UInt8)=> [D.v (.int .u8 (x.toNat:Int))]
end
end Go.Proofs.YtcogfmileelkeaaDoor.eng
