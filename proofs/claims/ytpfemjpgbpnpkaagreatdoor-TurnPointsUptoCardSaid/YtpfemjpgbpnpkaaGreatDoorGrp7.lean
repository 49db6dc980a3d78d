/- Joined by wip/bundle.py: XEngQ1 XEngQ2 XEngQ3 XEngQ4. -/
import Derived.Test.YtpfemjpgbpnpkaaGreatDoorGrpA
import Derived.Test.YtpfemjpgbpnpkaaGreatDoorGrp8
import Derived.Test.YtpfemjpgbpnpkaaGreatDoorGrpS
namespace Go.Proofs.YtpfemjpgbpnpkaaGreatDoor.eng
open Go.RowKit num mem seg q held ratA ratB ratC ratD ratE vars ratF natC natD natI dec natJ natK refA refC refD refE refF refG refH refI
def bz (n:Nat):Nat:=(enc n).size
theorem Zvu {n k:Nat}:bz n≤k↔n< 256 ^ k:=Zj
theorem Zhu {a b:Nat} (h:a≤b):bz a≤bz b:=ZaV h
theorem Zxh (s:ByteArray):bz (nv s)≤s.size:=ZS s
theorem Zlz (a b:Nat):bz (a+b)≤max (bz a) (bz b)+1:=Zd3 (k:=max (bz a) (bz b)) (by unfold bz;omega) (by unfold bz;omega)
theorem Zxi (a b:Nat):bz (a / b)≤bz a:=Zhu (Nat.div_le_self a b)
theorem Zxg:bz 1=1:=ZpO
abbrev nst (n:Nat):AV:=str (enc n)
theorem nv_one:nv ⟨#[1]⟩=1:=by decide
section
variable {K : AV → Prop} {a b : ByteArray} {n m : Nat}
theorem ZgV (a b:ByteArray) (ha:a.size≤140737488355328) (hb:b.size≤140737488355328):Spec Tryz.prog Tab 134 [str a,str b] (int (cmpN (nv a) (nv b))):=
 Zk (Zm Tryz.func134 rfl rfl) rfl rfl fun w _=>(Zks a b w ha hb).mono fun _ _ h=>⟨h.1,h.2 ▸ Below.refl _ _⟩
theorem Zmp (n m:Nat) (ha:nv a=n) (hb:nv b=m) (za:a.size≤140737488355328) (zb:b.size≤140737488355328) (k:∀ c,c=cmpN n m→K (int c)):Ask 134 [str a,str b] K:=by
 subst ha hb;exact use (ZgV a b za zb) rfl (k _ rfl)
theorem Zl3 (a b:ByteArray) (ha:a.size≤35184372088832) (hb:b.size≤35184372088832):Spec Tryz.prog Tab 132 [str a,str b] (nst (nv a+nv b)):=
 Zk (Zm Tryz.func132 rfl rfl) rfl rfl fun w _=>(Zs5 a b w ha hb).mono fun _ _ h=>h
theorem ZcX (n m:Nat) (ha:nv a=n) (hb:nv b=m) (za:a.size≤35184372088832) (zb:b.size≤35184372088832) (k:K (nst (n+m))):Ask 132 [str a,str b] K:=by
 subst ha hb;exact use (Zl3 a b za zb) rfl k
theorem Zl5 (a b:ByteArray) (ha:a.size≤35184372088832) (hb:b.size≤35184372088832) (h:nv b≤nv a):Spec Tryz.prog Tab 135 [str a,str b] (nst (nv a - nv b)):=
 Zk (Zm Tryz.func135 rfl rfl) rfl rfl fun w _=>(Zs9 a b w ha hb h).mono fun _ _ h=>h
theorem ZuS (n m:Nat) (ha:nv a=n) (hb:nv b=m) (h:m≤n) (za:a.size≤35184372088832) (zb:b.size≤35184372088832) (k:K (nst (n - m))):Ask 135 [str a,str b] K:=by
 subst ha hb;exact use (Zl5 a b za zb h) rfl k
theorem Zjg (a b:ByteArray) (h:a.size+b.size≤35184372088832):Spec Tryz.prog Tab 37 [str a,str b] (nst (nv a*nv b)):=
 Zk (Zm Tryz.func37 rfl rfl) rfl rfl fun w _=>(Zqs a b w h).mono fun _ _ h=>h
theorem Zk6 (n m:Nat) (ha:nv a=n) (hb:nv b=m) (h:a.size+b.size≤35184372088832) (k:K (nst (n*m))):Ask 37 [str a,str b] K:=by
 subst ha hb;exact use (Zjg a b h) rfl k
theorem Zn8 (a:ByteArray) (i:Nat) (ha:a.size≤140737488355328) (hi:i≤1152921504606846976):Spec Tryz.prog Tab 133 [str a,int (i:Int)] (int ((nv a / 2 ^ i % 2:Nat):Int)):=
 Zk (Zm Tryz.func133 rfl rfl) rfl rfl fun w _=>(Zvy a i w ha hi).mono fun _ _ h=>⟨h.1,h.2 ▸ Below.refl _ _⟩
theorem ZtS (n i:Nat) {j:Int} (ha:nv a=n) (hj:j=(i:Int)) (za:a.size≤140737488355328) (hi:i≤1152921504606846976) (k:K (int ((n / 2 ^ i % 2:Nat):Int))):Ask 133 [str a,int j] K:=by
 subst ha hj;exact use (Zn8 a i za hi) rfl k
end
end Go.Proofs.YtpfemjpgbpnpkaaGreatDoor.eng
namespace Go.Proofs.YtpfemjpgbpnpkaaGreatDoor.eng
open Go.RowKit num mem seg q held ratA ratB ratC ratD ratE vars ratF natC natD natI
theorem Zht {a b:Nat}:0≤cmpN a b↔b≤a:=by
 unfold cmpN
 split
 ·omega
 ·split<;>omega
section
variable {K : AV → Prop} {a b : ByteArray} {n m : Nat}
theorem Zsh {ox oy:Operand} {s:ByteArray} (n:Nat) (hs:s=enc n) (k1:n=0→K (bool true)) (k0:n≠0→K (bool false)):AskB .eql 9 ox oy (.string s) (.string ⟨#[]⟩) K:=
 ZbS (fun h=>k1 (Zfz.1 (by rw [← hs];exact h))) (fun h=>k0 (fun h0=>h (by rw [hs];exact Zfz.2 h0)))
end
end Go.Proofs.YtpfemjpgbpnpkaaGreatDoor.eng
namespace Go.Proofs.YtpfemjpgbpnpkaaGreatDoor.eng
open Go.RowKit num mem seg q held ratA ratB ratC ratD ratE vars ratF natC natD natI
def Fr (r:RV) (p:Rat):Prop:=0< nv r.d∧mkRat (sg r.s (nv r.a)) (nv r.d)=p
end Go.Proofs.YtpfemjpgbpnpkaaGreatDoor.eng
namespace Go.Proofs.YtpfemjpgbpnpkaaGreatDoor.eng
open Go.RowKit num mem seg q held ratA ratB ratC ratD ratE vars ratF natC natD natI
section
variable {K : AV → Prop} {a b : ByteArray} {x y r t : RV} {p q : Rat}
end
end Go.Proofs.YtpfemjpgbpnpkaaGreatDoor.eng
