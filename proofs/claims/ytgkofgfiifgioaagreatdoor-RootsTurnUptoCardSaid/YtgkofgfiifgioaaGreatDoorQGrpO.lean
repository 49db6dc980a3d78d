/- Joined by wip/bundle.py: XEngN3j XEngN3k XEngH3. -/
import Derived.Test.YtgkofgfiifgioaaGreatDoorQGrpN
set_option maxRecDepth 100000
namespace Go.Proofs.YtgkofgfiifgioaaGreatDoor.eng
open Go.RowKit num mem seg q held ratA ratB ratC ratD ratE vars ratF sub32
def q3 (q:Rat):AV:= .val (.agg [.d (.v (.bool (decide (q.num< 0)))),.d (.list (W (w32 q.num.natAbs))),.d (.list (W (w32 q.den)))])
section
variable {K : AV → Prop} {a b n d : Nat} {s t : Bool}
end
open Go.RowKit num mem seg q held ratA ratB ratC ratD ratE vars ratF sub32
section
variable {K : AV → Prop} {p q : Rat} {x : RV}
end
open Go.RowKit num mem seg q held ratA ratB ratC ratD ratE vars ratF natC natD natI sub32
def BL (l:List Int):List (List D):=l.map fun n=> [D.v (.int .u8 n)]
section
variable {K : AV → Prop}
theorem Zon (l:List (List D)) (h:l.length≤1):Spec Tryz.prog Tab 171 [.val (.one (.d (.list l)))] (.tup []):=by
 refine Zh Tryz.func171 rfl rfl Tryz.ntmps171 rfl ωr rfl rfl ?_
 refine⟨Unit,fun _=> [(2,int 0),(3,int (IntKind.i64.wrap ((l.length:Int) - 1)))],fun _=> [],fun _=>True,fun _=>0,(),?_,trivial,fun _ _=> ?_⟩
 ·constructor<;>(repeat' (first|exact rfl|exact True.intro|apply And.intro))
 refine⟨fun e=> ?_,fun _=> ?_⟩
 ·have h1:=of_decide_eq_true e
  rw [wrap64 _ ω ω] at h1
  omega
 ·exact rfl
theorem ZpD (n:Nat) (h0:0< n) (h:n< 256):strOfNums [(n:Int)]=enc n:=by
 apply Zch
 rw [strOfNums_data,Za4,digs,if_neg ω,Nat.div_eq_of_lt h,Zak,Nat.mod_eq_of_lt h]
 simp
theorem Zhy (n:Nat) (hn:n< 256):Spec Tryz.prog Tab 105 [int (n:Int)] (str (enc n)):=by
 refine Zh Tryz.func105 rfl rfl Tryz.ntmps105 rfl ωr rfl rfl ?_
 refine⟨Bool,fun s=> [(0,int (bif s then 0 else (n:Int))),(3,.val (.one (.row 13 0)))],fun s=> [(13,.row 5 1 0 (BL (bif s then [(n:Int)] else [])) true)],fun s=>s=true→0< n,fun s=>bif s then 0 else 1,false,?_,fun h=>by simp at h,fun s hs=> ?_⟩
 ·constructor<;>(repeat' (first|exact rfl|exact True.intro|exact⟨_,_,rfl⟩|exact(by decide:0< 1)|apply And.intro))
 have stop:∀ l:List Int,l=(bif s then [(n:Int)] else [])→(bif s then 0 else (n:Int))≤0→strOfNums l=enc n∧l.length≤1:=by
  rintro l rfl h
  cases s with
  |true=>exact⟨ZpD n (hs rfl) hn,Nat.le_refl 1⟩
  |false=>
   have h0:n=0:=by simp at h;omega
   subst h0
   exact⟨by rw [ZK];rfl,Nat.zero_le _⟩
 refine⟨fun e=> ?_,fun e=> ?_⟩
 ·have h1:=of_decide_eq_true e
  cases s with
  |true=>simp at h1
  |false=>
   have h2:0< n:=by simp at h1;omega
   refine Zsg n 256 rfl rfl ωd ?_
   refine Zsq Zte u_u8 (n:Int) (by unfold IntKind.wrap;simp [IntKind.signed,IntKind.bits];omega) ?_
   refine⟨⟨fun row hrow=>by rw [List.mem_singleton.1 hrow];rfl,(by decide:1*1≤140737488355328),(by decide:1≤140737488355328)⟩,?_⟩
   refine Zsi n 256 rfl rfl ωd ω ?_
   refine⟨true,fun _=>h2,by simp,?_⟩
   constructor<;>(repeat' (first|exact rfl|exact True.intro|apply And.intro))
   all_goals exact congrArg (fun n:Nat=>D.v (.int .i64 (n:Int))) (show 0=n / 256 by omega)
 ·have h1:=of_decide_eq_false e
  obtain⟨h2,h3⟩:=stop _ rfl ω
  refine use (Zon (BL (bif s then [(n:Int)] else [])) (by unfold BL;rw [List.length_map];exact h3)) rfl ?_
  refine⟨_,⟨5,(bif s then [(n:Int)] else []),rfl,Zpw,u_u8,Zs5,rfl⟩,?_⟩
  refine Eq.trans (b:=str (strOfNums (bif s then [(n:Int)] else []))) ?_ rfl
  rw [h2]
theorem Ziv {x:Int} (n:Nat) (hx:x=n) (hn:n< 256) (k:K (str (enc n))):Ask 105 [int x] K:=by
 subst hx;exact use (Zhy n hn) rfl k
end
