/- Joined by wip/bundle.py: XEngN3 XEngN3b XSub32 XEngN3c XEngN3d XEngN3e XEngN3f XEngN3g XEngN3h XEngN3i. -/
import Derived.Test.YtgkofgfiifgioaaGreatDoorQGrpA
namespace Go.Proofs.YtgkofgfiifgioaaGreatDoor.eng
open Go.RowKit num mem seg q held ratA ratB ratC ratD ratE vars ratF
def W (l:List Nat):List (List D):=l.map fun (x:Nat)=> [D.v (.int .u32 (x:Int))]
def n3 (n:Nat):AV:= .val (.one (.d (.list (W (w32 n)))))
section
variable {K : AV → Prop} {a b n m : Nat}
theorem Zsq {src dst:TypeId} {x:Int} {k':IntKind} (hs:(Tryz.prog.underlying src).isSome=true) (hd:Tryz.prog.underlying dst=some (.int k')) (y:Int) (hy:y=k'.wrap x) (k:K (one (.int k' y))):
  ∃ r,(∃ k',(Tryz.prog.underlying src).isSome=true∧Tryz.prog.underlying dst=some (.int k')∧r=one (.int k' (k'.wrap x)))∧K r:=⟨_,⟨k',hs,hd,rfl⟩,by subst hy;exact k⟩
theorem u_u8:Tryz.prog.underlying 5=some (.int .u8):=ωr
theorem Zs6:Tryz.prog.underlying 3=some (.int .i64):=ωr
theorem Zte:(Tryz.prog.underlying 3).isSome=true:=by rw [Zs6];rfl
end
theorem wlen_mono {a b:Nat} (h:a≤b):wlen 4 a≤wlen 4 b:=(Zci ω).2 (Nat.lt_of_le_of_lt h (ZbE ω))
theorem lt_B (n:Nat):n< 4294967296 ^ wlen 4 n:=by have:=@ZbE 4 n ω;simpa using this
end Go.Proofs.YtgkofgfiifgioaaGreatDoor.eng
namespace Go.Proofs.YtgkofgfiifgioaaGreatDoor.sub32
open Go.RowKit num mem
def dif (x y b:Nat):Nat:=(x+4294967296 - y - b) % 4294967296
end Go.Proofs.YtgkofgfiifgioaaGreatDoor.sub32
namespace Go.Proofs.YtgkofgfiifgioaaGreatDoor.eng
open Go.RowKit num mem seg q held ratA ratB ratC ratD ratE vars ratF sub32
theorem k_at_own' {K:AV→Prop} {xs:List (List D)} {m:Int} {o v n:Nat} (i:Nat) (hm:m=(i:Int)) (h:i< xs.length) (k:K (.val (.one (.rp o v n i 0)))):
  ∃ r,(0≤m∧m< (xs.length:Int)∧r= .val (.one (.rp o v n m.toNat 0)))∧K r:=⟨_,⟨ω,ω,rfl⟩,by subst hm;exact k⟩
open Go.RowKit num mem seg q held ratA ratB ratC ratD ratE vars ratF sub32
open Go.RowKit num mem seg q held ratA ratB ratC ratD ratE vars ratF sub32
theorem ZS {K:AV→Prop} {ty:Ty} {xs:List (List D)} {i n off:Nat} (ds:List D) (r:AV) (h:xs[i]? =some ds) (hl:ds.length=n) (hp:planIs (planCells ty (((ds.drop off).take ty.size).map .d)) r) (k:K r):
  ∃ r,(∃ ds,xs[i]? =some ds∧ds.length=n∧planIs (planCells ty (((ds.drop off).take ty.size).map .d)) r)∧K r:=⟨r,⟨ds,h,hl,hp⟩,k⟩
open Go.RowKit num mem seg q held ratA ratB ratC ratD ratE vars ratF sub32
section
variable {K : AV → Prop} {T : TypeId} {ox oy : Operand}
theorem Znd (T:TypeId) (ox oy:Operand) (n d:Nat) (hd:0< d) (hn:n< 9223372036854775808) (w:World):(do eqGuard .quo T ox oy (.int .i64 (n:Int)) (.int .i64 (d:Int));binOp .quo T (.int .i64 (n:Int)) (.int .i64 (d:Int)):Sem Value).run Tryz.prog w= .ok (.int .i64 ((n / d:Nat):Int)) w:=by
 have h0:¬ (d:Int)=0:=ω
 have h1:n / d≤n:=Nat.div_le_self n d
 have e1:(n:Int).tdiv (d:Int)=((n / d:Nat):Int):=rfl
 have hb:Op.intDiv .quo .i64 (n:Int) (d:Int)=pure (.int .i64 ((n / d:Nat):Int)):=by
  unfold Op.intDiv
  rw [if_neg h0]
  show pure (Value.int .i64 (IntKind.i64.wrap ((n:Int).tdiv (d:Int))))=_
  rw [e1]
  generalize n / d=z at h1
  rw [wrap64 _ ω ω]
 rw [eqGuard_quo,binOp_quo,hb]
 rfl
theorem Zna (T:TypeId) (ox oy:Operand) (n d:Nat) (hd:0< d) (w:World):(do eqGuard .rem T ox oy (.int .i64 (n:Int)) (.int .i64 (d:Int));binOp .rem T (.int .i64 (n:Int)) (.int .i64 (d:Int)):Sem Value).run Tryz.prog w= .ok (.int .i64 ((n % d:Nat):Int)) w:=by
 have h0:¬ (d:Int)=0:=ω
 have e1:(n:Int).tmod (d:Int)=((n % d:Nat):Int):=rfl
 have hg:eqGuard .rem T ox oy (.int .i64 (n:Int)) (.int .i64 (d:Int))=pure ():=rfl
 rw [hg,binOp_rem]
 unfold Op.intDiv
 rw [if_neg h0]
 simp only [e1]
 rfl
theorem Zsi {x y:Int} (n d:Nat) (hx:x=n) (hy:y=d) (hd:0< d) (hn:n< 9223372036854775808) (k:K (int ((n / d:Nat):Int))):AskB .quo T ox oy (.int .i64 x) (.int .i64 y) K:=by
 subst hx hy
 exact⟨_,⟨_,rfl,rfl,Znd T ox oy n d hd hn⟩,k⟩
theorem Zsg {x y:Int} (n d:Nat) (hx:x=n) (hy:y=d) (hd:0< d) (k:K (int ((n % d:Nat):Int))):AskB .rem T ox oy (.int .i64 x) (.int .i64 y) K:=by
 subst hx hy
 exact⟨_,⟨_,rfl,rfl,Zna T ox oy n d hd⟩,k⟩
end
open Go.RowKit num mem seg q held ratA ratB ratC ratD ratE vars ratF sub32
theorem pow_two (e:Nat):(4294967296:Nat) ^ e=2 ^ (32*e):=by rw [show (4294967296:Nat)=2 ^ 32 from rfl,← Nat.pow_mul]
open Go.RowKit num mem seg q held ratA ratB ratC ratD ratE vars ratF sub32
def sz (n:Nat):Nat:=if wlen 4 n=0 then 0 else 32*(wlen 4 n - 1)+Lib.bitLen (n / 4294967296 ^ (wlen 4 n - 1) % 4294967296)
theorem Zj0 (n:Nat):wlen 4 n=0↔n=0:=by
 constructor
 ·intro h
  have:=lt_B n
  rw [h] at this;simpa using this
 ·intro h;subst h;exact Nat.le_zero.1 ((Zci ω).2 ωd)
theorem top_pos {n:Nat} (h:0< n):0< wlen 4 n∧0< n / 4294967296 ^ (wlen 4 n - 1)∧n / 4294967296 ^ (wlen 4 n - 1)< 4294967296:=by
 have h1:0< wlen 4 n:=Nat.pos_of_ne_zero (fun e=>by have:=(Zj0 n).1 e;omega)
 have h2:4294967296 ^ (wlen 4 n - 1)≤n:=by
  apply Nat.le_of_not_lt
  intro hlt
  have:=(Zci (s:=4) (n:=n) (k:=wlen 4 n - 1) ω).2 (by simpa using hlt)
  omega
 have h3:=lt_B n
 obtain⟨m,hm⟩:∃ m,wlen 4 n=m+1:=⟨wlen 4 n - 1,ω⟩
 rw [hm] at h2 h3 ⊢
 simp only [Nat.add_sub_cancel] at h2 ⊢
 refine⟨ω,Nat.div_pos h2 (Nat.pow_pos ω),?_⟩
 apply Nat.div_lt_of_lt_mul
 rw [Nat.pow_succ] at h3;exact h3
section
variable {K : AV → Prop} {a b : Nat}
end
open Go.RowKit num mem seg q held ratA ratB ratC ratD ratE vars ratF sub32
section
variable {K : AV → Prop} {T : TypeId} {ox oy : Operand} {a b : Nat}
def Y (l:List UInt8):List (List D):=l.map fun (x:UInt8)=> [D.v (.int .u8 (x.toNat:Int))]
theorem Zs5:Tryz.prog.underlying 9=some .string:=ωr
theorem Zpw:Tryz.prog.underlying 224=some (.slice 5):=ωr
end
