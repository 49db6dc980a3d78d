/- What the printed walks (wip/wg.py) lean on. -/
import Derived.Test.YtbgokkfhohodgaaGreatDoorGrpS
namespace Go.Proofs.YtbgokkfhohodgaaGreatDoor.eng
open Go.RowKit num mem seg q held ratA ratB ratC ratD ratE vars ratF
section
variable {K : AV → Prop}
theorem Zal {a b:Int} (h:(a==b)=true):a=b:=eq_of_beq h
theorem Zam {a b:Int} (h:(a==b)=false):¬ a=b:=fun e=>by rw [e] at h;simp at h
theorem ZlW {a b:Int} (h:(a !=b)=true):¬ a=b:=fun e=>by rw [e] at h;simp at h
theorem ZlX {a b:Int} (h:(a !=b)=false):a=b:=by simpa using h
theorem ZbM {n:Int} {p q:Rat} (h:n=cmpQ p q):n< 0↔p< q:=by rw [h];exact ZkM p q
theorem ZbN {n:Int} {p q:Rat} (h:n=cmpQ p q):n≤0↔p≤q:=by rw [h];exact Zgv p q
theorem ZaR {n:Int} {p q:Rat} (h:n=cmpQ p q):n >0↔q< p:=by rw [h];exact ZfC p q
theorem Zb7 {n:Int} {p q:Rat} (h:n=cmpQ p q):n≥0↔q≤p:=by rw [h];exact ZiY p q
theorem ZaP {n:Int} {p:Rat} (h:n=sgnQ p):n< 0↔p< 0:=by
 rw [h,← Zkq];unfold sgnQ
 by_cases h1:p.num=0
 ·simp [h1]
 ·rw [if_neg h1];constructor
  ·intro e;split at e<;>omega
  ·intro e;rw [if_pos e];omega
variable {T : TypeId} {ox oy : Operand}
theorem Zjp (T:TypeId) (ox oy:Operand) (n d:Nat) (hd:0< d) (hn:n< 9223372036854775808) (w:World):(do eqGuard .quo T ox oy (.int .i64 (n:Int)) (.int .i64 (d:Int));binOp .quo T (.int .i64 (n:Int)) (.int .i64 (d:Int)):Sem Value).run Tryz.prog w= .ok (.int .i64 ((n / d:Nat):Int)) w:=by
 have h0:¬ (d:Int)=0:=by omega
 have h1:n / d≤n:=Nat.div_le_self n d
 have e1:(n:Int).tdiv (d:Int)=((n / d:Nat):Int):=rfl
 have hb:Op.intDiv .quo .i64 (n:Int) (d:Int)=pure (.int .i64 ((n / d:Nat):Int)):=by
  unfold Op.intDiv
  rw [if_neg h0]
  show pure (Value.int .i64 (IntKind.i64.wrap ((n:Int).tdiv (d:Int))))=_
  rw [e1]
  generalize n / d=z at h1
  rw [wrap64 _ (by omega) (by omega)]
 rw [eqGuard_quo,binOp_quo,hb]
 rfl
theorem Zjo (T:TypeId) (ox oy:Operand) (n d:Nat) (hd:0< d) (w:World):(do eqGuard .rem T ox oy (.int .i64 (n:Int)) (.int .i64 (d:Int));binOp .rem T (.int .i64 (n:Int)) (.int .i64 (d:Int)):Sem Value).run Tryz.prog w= .ok (.int .i64 ((n % d:Nat):Int)) w:=by
 have h0:¬ (d:Int)=0:=by omega
 have e1:(n:Int).tmod (d:Int)=((n % d:Nat):Int):=rfl
 have hg:eqGuard .rem T ox oy (.int .i64 (n:Int)) (.int .i64 (d:Int))=pure ():=rfl
 rw [hg,binOp_rem]
 unfold Op.intDiv
 rw [if_neg h0]
 simp only [e1]
 rfl
theorem Zlk {x y:Int} (n d:Nat) (hx:x=n) (hy:y=d) (hd:0< d) (hn:n< 9223372036854775808) (k:K (int ((n / d:Nat):Int))):AskB .quo T ox oy (.int .i64 x) (.int .i64 y) K:=by
 subst hx hy
 exact⟨_,⟨_,rfl,rfl,Zjp T ox oy n d hd hn⟩,k⟩
theorem Zli {x y:Int} (n d:Nat) (hx:x=n) (hy:y=d) (hd:0< d) (k:K (int ((n % d:Nat):Int))):AskB .rem T ox oy (.int .i64 x) (.int .i64 y) K:=by
 subst hx hy
 exact⟨_,⟨_,rfl,rfl,Zjo T ox oy n d hd⟩,k⟩
end
end Go.Proofs.YtbgokkfhohodgaaGreatDoor.eng
