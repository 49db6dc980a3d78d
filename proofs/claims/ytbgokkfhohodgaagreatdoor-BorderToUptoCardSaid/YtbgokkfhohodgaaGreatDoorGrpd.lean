/- Joined by wip/bundle.py: XBto0 XBtoA XBtoR XLawBto. -/
import Derived.Test.YtbgokkfhohodgaaGreatDoorGrpc
import Derived.Laws.Externs
import Derived.Test.YtbgokkfhohodgaaGreatDoorGrpW
set_option maxRecDepth 100000
namespace Go.Proofs.YtbgokkfhohodgaaGreatDoor.eng
open Go.RowKit num mem seg q held ratA ratB ratC ratD ratE vars ratF
set_option exponentiation.threshold 4000
theorem ZlT (b:Nat):fF b< fF (b+1):=by
 unfold fF
 rcases (show (b+1) / 4503599627370496=b / 4503599627370496∨((b+1) / 4503599627370496=b / 4503599627370496+1∧b % 4503599627370496=4503599627370495∧(b+1) % 4503599627370496=0) by omega) with h|⟨h,h1,h2⟩
 ·have hm:(b+1) % 4503599627370496=b % 4503599627370496+1:=by omega
  have e:fe (b+1)=fe b:=by unfold fe fE;rw [h]
  have m:fm (b+1)=fm b+1:=by unfold fm fE;rw [h,hm];split<;>omega
  rw [e,m]
  exact Nat.mul_lt_mul_of_pos_right (Nat.lt_succ_self _) (Nat.two_pow_pos _)
 ·have m:fm (b+1)=4503599627370496:=by unfold fm fE;rw [if_neg (by omega),h2]
  have e:fe (b+1)=b / 4503599627370496+1:=by unfold fe fE;rw [if_neg (by omega),h]
  by_cases z:b / 4503599627370496=0
  ·rw [m,e,(Zfv z).1,(Zfv z).2,h1,z];decide
  ·rw [m,e,(Zfw z).1,(Zfw z).2,h1,Nat.pow_succ,← Nat.mul_assoc,Nat.mul_comm _ 2,← Nat.mul_assoc]
   exact Nat.mul_lt_mul_of_pos_right (by decide) (Nat.two_pow_pos _)
theorem ZiJ {a b:Nat} (h:a< b):fltQ a< fltQ b:=by
 have h2:fltQ (a+1)≤fltQ b:=Zba h
 have h1:fltQ a< fltQ (a+1):=by
  have hF:=Rat.natCast_lt_natCast.2 (ZlT a)
  unfold fltQ
  rw [Rat.div_def,Rat.div_def]
  exact Rat.mul_lt_mul_of_pos_right hF (by decide+kernel)
 clear h
 grind
def UnP (q:Rat) (n:Nat):Prop:=n< 9218868437227405312∧fltQ n≤q∧(n+1=9218868437227405312∨q< fltQ (n+1))
theorem Zkk {q:Rat} {n m:Nat} (h:UnP q n) (g:UnP q m):n=m:=by
 have key:∀ {a b:Nat},UnP q a→UnP q b→¬ a< b:=by
  intro a b ha hb hab
  rcases ha.2.2 with e|e
  ·have:=hb.1;omega
  ·have h1:=Zba (show a+1≤b from hab)
   have h2:=hb.2.1
   grind
 have:=key h g
 have:=key g h
 omega
open Classical in
noncomputable def unB (q:Rat):Nat:=if h:∃ n,UnP q n then h.choose else 0
theorem Zj7 {q:Rat} {n:Nat} (h:UnP q n):unB q=n:=by
 have e:∃ n,UnP q n:=⟨n,h⟩
 unfold unB
 rw [dif_pos e]
 exact Zkk e.choose_spec h
theorem Zfu:fltQ 0=0:=by decide+kernel
theorem ZlE {q:Rat} (h:0≤q):∃ n,UnP q n:=by
 have key:∀ (d lo:Nat),lo+d+1=9218868437227405312→fltQ lo≤q→∃ n,UnP q n:=by
  intro d
  induction d with
  |zero=>intro lo hl hq;exact⟨lo,by omega,hq,.inl hl⟩
  |succ d ih=>
   intro lo hl hq
   by_cases hx:q< fltQ (lo+1)
   ·exact⟨lo,by omega,hq,.inr hx⟩
   ·exact ih (lo+1) (by omega) (Rat.not_lt.1 hx)
 exact key 9218868437227405311 0 (by omega) (by rw [Zfu];exact h)
theorem Zbu {q:Rat} (h:0≤q):UnP q (unB q):=by
 obtain⟨n,hn⟩:=ZlE h
 rw [Zj7 hn];exact hn
noncomputable def ovB (q:Rat):Nat:=if fltQ (unB q)< q then unB q+1 else unB q
abbrev mxB:Nat:=9218868437227405311
theorem Zkl {q:Rat} (h:0≤q) (hm:q≤fltQ mxB):q< fltQ (unB q+1):=by
 have hu:=Zbu h
 rcases hu.2.2 with e|e
 ·have h1:=ZiJ (show mxB< unB q+1 by have:mxB=9218868437227405311:=rfl;omega)
  grind
 ·exact e
theorem ZjB {q:Rat} (h:0≤q) (hm:q≤fltQ mxB):ovB q≤mxB∧q≤fltQ (ovB q)∧∀ n,n< ovB q→fltQ n< q:=by
 have hu:=Zbu h
 have hl:=Zkl h hm
 unfold ovB
 split
 ·rename_i hlt
  refine⟨?_,Rat.le_of_lt hl,fun n hn=> ?_⟩
  ·rcases Nat.lt_or_ge mxB (unB q+1) with c|c
   ·have h1:=Zba (show mxB≤unB q by omega)
    grind
   ·exact c
  ·have h1:=Zba (show n≤unB q by omega)
   grind
 ·rename_i hge
  have e:fltQ (unB q)=q:=by have:=hu.2.1;grind
  refine⟨by have:=hu.1;show _≤9218868437227405311;omega,by rw [e];exact Rat.le_refl,fun n hn=> ?_⟩
  rw [← e];exact ZiJ hn
noncomputable def toL (l:Rat):Nat:=if l< 0 then ovB (-l)+9223372036854775808 else unB l
noncomputable def toH (h:Rat):Nat:=if h< 0 then (if 0< unB (-h) then unB (-h)+9223372036854775808 else 0) else ovB h
open Classical in
noncomputable def tE (l h:Rat):Int:=if l< -fltQ mxB∨fltQ mxB< h then 2 else 0
noncomputable def tL (l h:Rat):Nat:=if tE l h=0 then toL l else 0
noncomputable def tH (l h:Rat):Nat:=if tE l h=0 then toH h else 0
theorem ZcV {l h:Rat} (hf:l< -fltQ mxB∨fltQ mxB< h):tL l h=0∧tH l h=0∧tE l h=2:=by
 have e:tE l h=2:=if_pos hf
 exact⟨by unfold tL;rw [e,if_neg (by decide)],by unfold tH;rw [e,if_neg (by decide)],e⟩
theorem t_ok {l h:Rat} (hf:¬ (l< -fltQ mxB∨fltQ mxB< h)):tL l h=toL l∧tH l h=toH h∧tE l h=0:=by
 have e:tE l h=0:=if_neg hf
 exact⟨if_pos e,if_pos e,e⟩
theorem ZaT {l:Rat} (h:l< 0):toL l=ovB (-l)+9223372036854775808:=if_pos h
theorem Zbf {l:Rat} (h:¬ l< 0):toL l=unB l:=if_neg h
theorem Zcl {l:Rat} (h:¬ l< 0):toH l=ovB l:=if_neg h
theorem Zcm {l:Rat} (h:l< 0) (g:0< unB (-l)):toH l=unB (-l)+9223372036854775808:=(if_pos h).trans (if_pos g)
theorem Zbv {l:Rat} (h:l< 0) (g:¬ 0< unB (-l)):toH l=0:=(if_pos h).trans (if_neg g)
theorem max0 {l:Rat} (h:¬ l< 0):maxQ l ((0:Int):Rat)=l:=by
 have e:((0:Int):Rat)=0:=rfl
 unfold maxQ;rw [e];split<;>grind
theorem Zf9 (l:Rat):0≤maxQ l ((0:Int):Rat):=by
 have e:((0:Int):Rat)=0:=rfl
 unfold maxQ;rw [e];split<;>grind
theorem max_le {l m:Rat} (h:¬ m< l) (hm:0≤m):maxQ l ((0:Int):Rat)≤m:=by
 have e:((0:Int):Rat)=0:=rfl
 unfold maxQ;rw [e];split<;>grind
theorem Zk6 {q:Rat} (h:0< q):0< ovB q:=by
 unfold ovB
 split
 ·omega
 ·rename_i hge
  rcases Nat.eq_zero_or_pos (unB q) with e|e
  ·rw [e,Zfu] at hge;exact absurd h hge
  ·exact e
noncomputable def abQ (b:Nat):Rat:=if b< 9223372036854775808 then fltQ (b+1) else if b=9223372036854775809 then 0 else -fltQ (b - 9223372036854775809)
theorem Zdz {b:Nat} (h:b< 9223372036854775808):abQ b=fltQ (b+1):=if_pos h
theorem Zgy:abQ 9223372036854775809=0:=(if_neg (by decide)).trans (if_pos rfl)
theorem Zgz {b:Nat} (h:9223372036854775808< b) (g:b≠9223372036854775809):abQ b=-fltQ (b - 9223372036854775809):=(if_neg (by omega)).trans (if_neg g)
def abOk (b:Nat):Prop:=b≤9218868437227405311∨(9223372036854775808< b∧b≤9218868437227405312+9223372036854775808)
theorem Zja {n:Nat} (h:0< n) (hn:n≤9218868437227405311):abQ (n+9223372036854775808)=-fltQ (n - 1):=by
 by_cases g:n=1
 ·subst g
  rw [show 1+9223372036854775808=9223372036854775809 from rfl,Zgy,Zfu];decide+kernel
 ·rw [Zgz (by omega) (by omega),show n+9223372036854775808 - 9223372036854775809=n - 1 by omega]
theorem Zld {l:Rat} (h:l< 0) (hm:-l≤fltQ mxB):(0< ovB (-l)∧ovB (-l)≤9218868437227405311)∧-fltQ (ovB (-l))≤l∧l< abQ (ovB (-l)+9223372036854775808):=by
 have h0:0< -l:=by grind
 obtain⟨h1,h2,h3⟩:=ZjB (Rat.le_of_lt h0) hm
 have hp:=Zk6 h0
 refine⟨⟨hp,h1⟩,by grind,?_⟩
 rw [Zja hp h1]
 have:=h3 (ovB (-l) - 1) (by omega)
 grind
theorem Zlc {l:Rat} (h:¬ l< 0) (hm:l≤fltQ mxB):unB l≤9218868437227405311∧fltQ (unB l)≤l∧l< abQ (unB l):=by
 have h0:0≤l:=Rat.not_lt.1 h
 obtain⟨h1,h2,_⟩:=Zbu h0
 refine⟨by omega,h2,?_⟩
 rw [Zdz (by omega)]
 exact Zkl h0 hm
theorem Zls {h:Rat} (g:¬ h< 0) (hm:h≤fltQ mxB):ovB h≤9218868437227405311∧h≤fltQ (ovB h)∧(0< ovB h→-abQ (ovB h+9223372036854775808)< h):=by
 obtain⟨h1,h2,h3⟩:=ZjB (Rat.not_lt.1 g) hm
 refine⟨h1,h2,fun hp=> ?_⟩
 rw [Zja hp h1]
 have:=h3 (ovB h - 1) (by omega)
 grind
theorem Zlt {h:Rat} (g:h< 0) (hm:-h≤fltQ mxB):unB (-h)≤9218868437227405311∧h≤-fltQ (unB (-h))∧-abQ (unB (-h))< h:=by
 have h0:0≤-h:=by grind
 obtain⟨h1,h2,_⟩:=Zbu h0
 have h3:=Zkl h0 hm
 refine⟨by omega,by grind,?_⟩
 rw [Zdz (by omega)]
 grind
theorem ZlS:0< fltQ 1:=by have:=ZiJ (show 0< 1 by decide);rw [Zfu] at this;exact this
def LoF (l:Rat) (n:Nat):Prop:=(l< 0∧n=ovB (-l)+9223372036854775808∧(0< ovB (-l)∧ovB (-l)≤9218868437227405311)∧-fltQ (ovB (-l))≤l∧l< abQ n)∨(n=unB l∧n≤9218868437227405311∧fltQ n≤l∧l< abQ n)
def HiF (h:Rat) (n:Nat):Prop:=(n=unB (-h)+9223372036854775808∧(0< unB (-h)∧unB (-h)≤9218868437227405311)∧h≤-fltQ (unB (-h))∧-abQ (unB (-h))< h)∨
 (0< n∧n≤9218868437227405311∧h≤fltQ n∧-abQ (n+9223372036854775808)< h)∨(n=0∧h≤fltQ 0∧-fltQ 1< h)
theorem ZlL {l h:Rat} (hle:l≤h) (hf:¬ (l< -fltQ mxB∨fltQ mxB< h)):LoF l (toL l):=by
 by_cases g:l< 0
 ·obtain⟨h1,h2,h3⟩:=Zld g (by grind)
  exact .inl ⟨g,ZaT g,h1,h2,by rw [ZaT g];exact h3⟩
 ·obtain⟨h1,h2,h3⟩:=Zlc g (by grind)
  refine .inr ?_
  rw [Zbf g]
  exact⟨rfl,h1,h2,h3⟩
theorem ZlR {l h:Rat} (hle:l≤h) (hf:¬ (l< -fltQ mxB∨fltQ mxB< h)):HiF h (toH h):=by
 by_cases g:h< 0
 ·obtain⟨h1,h2,h3⟩:=Zlt g (by grind)
  by_cases z:0< unB (-h)
  ·exact .inl ⟨Zcm g z,⟨z,h1⟩,h2,h3⟩
  ·have z':unB (-h)=0:=by omega
   rw [z',Zdz (by decide)] at h3
   rw [z',Zfu] at h2
   exact .inr (.inr ⟨Zbv g z,by rw [Zfu];grind,h3⟩)
 ·obtain⟨h1,h2,h3⟩:=Zls g (by grind)
  rw [Zcl g]
  by_cases z:0< ovB h
  ·exact .inr (.inl ⟨z,h1,h2,h3 z⟩)
  ·have z':ovB h=0:=by omega
   rw [z'] at h2 ⊢
   exact .inr (.inr ⟨rfl,h2,by have:=ZlS;grind⟩)
end Go.Proofs.YtbgokkfhohodgaaGreatDoor.eng
namespace Go.Proofs.YtbgokkfhohodgaaGreatDoor.eng
open Go.RowKit num mem seg q held ratA ratB ratC ratD ratE vars ratF
set_option exponentiation.threshold 4000
section
variable {K : AV → Prop}
theorem Zgj (w:World):(callFunc 76 #[Value.float .f64 9218868437227405311]).run Tryz.prog w= .ok (.value (.int .u64 9218868437227405311)) w:=by
 rw [run_callFunc_extern (e:=Extern.MathFloatBits.float64bits) Tryz.func76 (by kernel_rfl) (by kernel_rfl) (by kernel_rfl) (by kernel_rfl)]
 rfl
theorem Zjq (T:TypeId) (ox oy:Operand) (n d:Nat) (hd:0< d) (hn:n< 18446744073709551616) (w:World):(do eqGuard .quo T ox oy (.int .u64 (n:Int)) (.int .u64 (d:Int));binOp .quo T (.int .u64 (n:Int)) (.int .u64 (d:Int)):Sem Value).run Tryz.prog w= .ok (.int .u64 ((n / d:Nat):Int)) w:=by
 have h1:n / d≤n:=Nat.div_le_self _ _
 have hb:Op.intDiv .quo .u64 (n:Int) (d:Int)=(pure (.int .u64 ((n / d:Nat):Int)):Sem Value):=by
  unfold Op.intDiv
  rw [if_neg (by omega)]
  have e1:(n:Int).tdiv (d:Int)=((n / d:Nat):Int):=rfl
  show pure (Value.int .u64 (IntKind.u64.wrap ((n:Int).tdiv (d:Int))))=_
  rw [e1]
  generalize n / d=z at h1
  rw [bwu64 (by omega) (by omega)]
 rw [eqGuard_quo,binOp_quo,hb]
 rfl
theorem Zll {ox oy:Operand} {T:TypeId} {x y:Int} (n d:Nat) (hx:x=n) (hy:y=d) (hd:0< d) (hn:n< 18446744073709551616) (k:K (one (.int .u64 ((n / d:Nat):Int)))):AskB .quo T ox oy (.int .u64 x) (.int .u64 y) K:=by
 subst hx hy
 exact⟨_,⟨_,rfl,rfl,Zjq T ox oy n d hd hn⟩,k⟩
set_option maxHeartbeats 2000000 in
theorem ZgC (x:RV) (hx:x.z≤8388608) (h0:0≤x.q):Spec Tryz.prog Tab 77 [rat x] (.val (.one (.d (.v (.int .u64 (((unB x.q:Nat):Int))))))):=by
 refine Zy Tryz.func77 rfl rfl Tryz.ntmps77 rfl (by kernel_rfl) rfl rfl ?_
 refine⟨Nat×Nat,fun (lo,hi)=> [(1,.val (.one (.ptr 1 0))),(3,.val (.one (.d (.v (.int .u64 ((lo:Int))))))),(4,.val (.one (.d (.v (.int .u64 ((hi:Int)))))))],
  fun (lo,hi)=> [(1,.var 23 [.d (.v (.bool x.s)),.d (.v (.string x.a)),.d (.v (.string x.d))])],fun (lo,hi)=>lo< hi∧hi≤9218868437227405312∧fltQ lo≤x.q∧(hi=9218868437227405312∨x.q< fltQ hi),fun (lo,hi)=>hi - lo,(0,9218868437227405312),?_,⟨by decide,Nat.le_refl _,by rw [Zfu];exact h0,.inl rfl⟩,fun s hs=> ?_⟩
 ·constructor<;>(repeat' (first|exact rfl|exact True.intro|exact⟨_,_,rfl⟩|exact(by decide)|apply And.intro))
  all_goals first|exact congrArg (fun n:Int=>D.v (.int .i64 n)) (by omega)|exact congrArg (fun n:Int=>D.v (.int .i64 n)) (by rw [wrap64 _ (by omega) (by omega)];omega)|(simp;done)
 obtain⟨lo,hi⟩:=s
 obtain⟨h1,h2,h3,h4⟩:=hs
 try simp only at h1 h2 h3 h4
 have hw7:IntKind.u64.wrap ((lo:Int)+1)=(lo:Int)+1:=bwu64 (by omega) (by omega)
 refine⟨fun e1=> ?_,fun e1=> ?_⟩
 ·have f9:IntKind.u64.wrap ((lo:Int)+1)< (hi:Int):=of_decide_eq_true e1
  rw [hw7] at f9
  refine Zll (lo+hi) 2 (by first|rfl|(rw [bwu64 (by omega) (by omega)];omega)) rfl (by decide) (by omega) ?_
  refine Zbn ((lo+hi) / 2) (by first|rfl|(rw [bwu64 (by omega) (by omega)];omega)) (by omega) fun q15 h15 z15=> ?_
  simp only [cn_z] at z15
  refine ZM (x:=cn q15) (y:=x) (by simp only [cn_z];omega) (by omega) fun n17 h17=> ?_
  simp only [cn_q] at h17
  refine⟨by kernel_rfl,?_⟩
  refine⟨fun e2=> ?_,fun e2=> ?_⟩
  ·have f18:q15≤x.q:=(ZbN h17).1 (of_decide_eq_true e2)
   refine⟨((lo+hi) / 2,hi),⟨by first|omega|(simp only;omega),by first|omega|(simp only;omega),by rw [← h15];exact f18,h4⟩,by simp only;omega,?_⟩
   constructor<;>(repeat' (first|exact rfl|exact True.intro|apply And.intro))
   all_goals first
    |exact congrArg (fun n:Int=>D.v (.int .i64 n)) (by rw [wrap64 _ (by omega) (by omega)];omega)
    |exact congrArg (fun n:Int=>D.v (.int .i64 n)) (by omega)
  ·have f18:¬ (q15≤x.q):=fun hh=>of_decide_eq_false e2 ((ZbN h17).2 hh)
   refine⟨(lo,(lo+hi) / 2),⟨by first|omega|(simp only;omega),by first|omega|(simp only;omega),h3,.inr (by rw [← h15];exact Rat.not_le.1 f18)⟩,by simp only;omega,?_⟩
   constructor<;>(repeat' (first|exact rfl|exact True.intro|apply And.intro))
   all_goals first
    |exact congrArg (fun n:Int=>D.v (.int .i64 n)) (by rw [wrap64 _ (by omega) (by omega)];omega)
    |exact congrArg (fun n:Int=>D.v (.int .i64 n)) (by omega)
 ·have f9:¬ (IntKind.u64.wrap ((lo:Int)+1)< (hi:Int)):=of_decide_eq_false e1
  rw [hw7] at f9
  refine Eq.trans (b:= .val (.one (.d (.v (.int .u64 ((lo:Int))))))) ?_ rfl
  obtain rfl:hi=lo+1:=by omega
  rw [Zj7 (q:=x.q) (n:=lo) ⟨by omega,h3,h4⟩]
  all_goals rfl
theorem Zbj {x:RV} (hx:x.z≤8388608) (h0:0≤x.q) {q:Rat} (hq:x.q=q) (k:K (.val (.one (.d (.v (.int .u64 ((unB q:Nat):Int))))))):Ask 77 [rat x] K:=by
 subst hq;exact use (ZgC x hx h0) rfl k
set_option maxHeartbeats 2000000 in
theorem Zh6 (x:RV) (hx:x.z≤8388608) (h0:0≤x.q) (_:x.q≤fltQ mxB):Spec Tryz.prog Tab 79 [rat x] (.val (.one (.d (.v (.int .u64 (((ovB x.q:Nat):Int))))))):=by
 have hu:=(Zbu h0).1
 refine Zy Tryz.func79 rfl rfl Tryz.ntmps79 rfl (by kernel_rfl) rfl rfl ?_
 refine Zbj (x:=x) (by omega) (by first|exact h0|(simp only [cn_q];assumption)) rfl ?_
 refine Zbn (unB x.q) (by first|rfl|(rw [bwu64 (by omega) (by omega)];omega)) (by omega) fun q7 h7 z7=> ?_
 simp only [cn_z] at z7
 refine ZM (x:=cn q7) (y:=x) (by simp only [cn_z];omega) (by omega) fun n9 h9=> ?_
 simp only [cn_q] at h9
 refine⟨by kernel_rfl,?_⟩
 refine⟨fun e1=> ?_,fun e1=> ?_⟩
 ·have f10:q7< x.q:=(ZbM h9).1 (of_decide_eq_true e1)
  refine Eq.trans (b:= .val (.one (.d (.v (.int .u64 (IntKind.u64.wrap (((unB x.q:Nat):Int)+1))))))) ?_ rfl
  have e:ovB x.q=unB x.q+1:=if_pos (by rw [← h7];exact f10)
  rw [e,bwu64 (by omega) (by omega)]
  all_goals rfl
 ·have f10:¬ (q7< x.q):=fun hh=>of_decide_eq_false e1 ((ZbM h9).2 hh)
  refine Eq.trans (b:= .val (.one (.d (.v (.int .u64 (((unB x.q:Nat):Int))))))) ?_ rfl
  have e:ovB x.q=unB x.q:=if_neg (by rw [← h7];exact f10)
  rw [e]
  all_goals rfl
theorem Zgc {x:RV} (hx:x.z≤8388608) (h0:0≤x.q) {q:Rat} (hq:x.q=q) (hm:q≤fltQ mxB) (k:K (.val (.one (.d (.v (.int .u64 ((ovB q:Nat):Int))))))):Ask 79 [rat x] K:=by
 subst hq;exact use (Zh6 x hx h0 hm) rfl k
theorem Zlm {ox oy:Operand} {T:TypeId} {y:Int} (n:Nat) (hy:y=n) (hn:n< 9223372036854775808) (k:K (one (.int .u64 ((n+9223372036854775808:Nat):Int)))):AskB .or T ox oy (.int .u64 9223372036854775808) (.int .u64 y) K:=by
 subst hy
 have e:9223372036854775808|||n=n+9223372036854775808:=by
  have h:=Nat.two_pow_add_eq_or_of_lt (i:=63) (b:=n) (by omega) 1
  rw [Nat.add_comm n]
  simpa using h.symm
 refine⟨_,⟨_,rfl,rfl,ZhO T ox oy 9223372036854775808 n (by decide) (by omega)⟩,?_⟩
 rw [e];exact k
set_option maxHeartbeats 8000000 in
theorem ZkP (x y:RV) (hx:x.z≤1048576) (hy:y.z≤1048576):Spec Tryz.prog Tab 19 [pair x y] (.tup [.one (.d (.v (.int .u64 (((tL (slo x y) (shi x y):Nat):Int))))),.one (.d (.v (.int .u64 (((tH (slo x y) (shi x y):Nat):Int))))),.one (.d (.v (.int .i64 ((tE (slo x y) (shi x y))))))]):=by
 refine Zlv [200013] Tryz.func19 rfl rfl Tryz.ntmps19 rfl (by kernel_rfl) rfl rfl ?_
 refine ZcF (x:=x) (y:=y) (by omega) (by omega) (fun g9=> ?_) (fun g9=> ?_)
 ·have el:slo x y=x.q:=if_pos g9
  have eh:shi x y=y.q:=if_pos g9
  refine⟨fun e=>absurd e (by decide),fun _=> ?_⟩
  refine⟨_,⟨_,rfl,rfl,(fun w=>Zgj w)⟩,?_⟩
  refine Zbn (9218868437227405311) (by first|rfl|(rw [bwu64 (by omega) (by omega)];omega)) (by omega) fun q14 h14 z14=> ?_
  simp only [cn_z] at z14
  refine Zbm (x:=cn q14) (by simp only [cn_z];omega) fun q18 h18 z18=> ?_
  simp only [cn_z] at z18
  simp only [cn_q] at h18
  refine ZM (x:=x) (y:=cn q18) (by omega) (by simp only [cn_z];omega) fun n19 h19=> ?_
  simp only [cn_q] at h19
  refine fork (fun e1=> ?_) (fun e1=> ?_)
  ·have f21:x.q< q18:=(ZbM h19).1 (of_decide_eq_true e1)
   refine⟨by kernel_rfl,?_⟩
   refine⟨fun _=> ?_,fun e=>absurd e (by decide)⟩
   refine Eq.trans (b:= .tup [.one (.d (.v (.int .u64 (0)))),.one (.d (.v (.int .u64 (0)))),.one (.d (.v (.int .i64 (2))))]) ?_ rfl
   rw [el,eh]
   obtain⟨e1,e2,e3⟩:=ZcV (l:=x.q) (h:=y.q) (.inl (by rw [← h14,← h18];exact f21))
   rw [e1,e2,e3]
   all_goals rfl
  ·have f21:¬ (x.q< q18):=fun hh=>of_decide_eq_false e1 ((ZbM h19).2 hh)
   refine ZM (x:=y) (y:=cn q14) (by omega) (by simp only [cn_z];omega) fun n25 h25=> ?_
   simp only [cn_q] at h25
   refine⟨by kernel_rfl,?_⟩
   refine⟨fun e2=> ?_,fun e2=> ?_⟩
   ·have f27:q14< y.q:=(ZaR h25).1 (of_decide_eq_true e2)
    refine Eq.trans (b:= .tup [.one (.d (.v (.int .u64 (0)))),.one (.d (.v (.int .u64 (0)))),.one (.d (.v (.int .i64 (2))))]) ?_ rfl
    rw [el,eh]
    obtain⟨e1,e2,e3⟩:=ZcV (l:=x.q) (h:=y.q) (.inr (by rw [← h14];exact f27))
    rw [e1,e2,e3]
    all_goals rfl
   ·have f27:¬ (q14< y.q):=fun hh=>of_decide_eq_false e2 ((ZaR h25).2 hh)
    have hnl:¬ (x.q< -fltQ mxB∨fltQ mxB< y.q):=by rintro(h|h);exact f21 (by rw [h18,h14];exact h);exact f27 (by rw [h14];exact h)
    have hp0:=ZdV mxB
    refine k_of (0) (by omega) (by omega) fun q30 h30 z30=> ?_
    simp only [cn_z] at z30
    refine ZiA (x:=x) (y:=cn q30) (by omega) (by simp only [cn_z];omega) fun q31 h31 z31=> ?_
    simp only [cn_z] at z31
    simp only [cn_q] at h31
    have hq31:0≤q31:=by rw [h31,h30];exact Zf9 _
    refine Zbj (x:=cn q31) (by simp only [cn_z];omega) (by first|exact h0|(simp only [cn_q];assumption)) (cn_q _) ?_
    refine k_of (0) (by omega) (by omega) fun q35 h35 z35=> ?_
    simp only [cn_z] at z35
    refine ZiA (x:=y) (y:=cn q35) (by omega) (by simp only [cn_z];omega) fun q36 h36 z36=> ?_
    simp only [cn_z] at z36
    simp only [cn_q] at h36
    have hq36:0≤q36:=by rw [h36,h35];exact Zf9 _
    have hm36:q36≤fltQ mxB:=by rw [h36,h35];exact max_le (fun h=>hnl (.inr h)) hp0
    refine Zgc (x:=cn q36) (by simp only [cn_z];omega) (by simp only [cn_q];assumption) (cn_q _) (by assumption) ?_
    refine⟨by kernel_rfl,?_⟩
    refine ZcE (x:=x) (by omega) fun n40 h40=> ?_
    refine⟨fun e3=> ?_,fun e3=> ?_⟩
    ·have f41:x.q< 0:=(ZaP h40).1 (of_decide_eq_true e3)
     refine Zbm (x:=x) (by omega) fun q44 h44 z44=> ?_
     simp only [cn_z] at z44
     have hq44:0≤q44:=by rw [h44];grind
     have hm44:q44≤fltQ mxB:=by rw [h44];grind
     refine Zgc (x:=cn q44) (by simp only [cn_z];omega) (by simp only [cn_q];assumption) (cn_q _) (by assumption) ?_
     refine Zlm (ovB q44) rfl (by have:ovB q44≤9218868437227405311:=(ZjB hq44 hm44).1;omega) ?_
     refine ZcE (x:=y) (by omega) fun n49 h49=> ?_
     refine⟨fun e4=> ?_,fun e4=> ?_⟩
     ·have f50:y.q< 0:=(ZaP h49).1 (of_decide_eq_true e4)
      refine Zbm (x:=y) (by omega) fun q53 h53 z53=> ?_
      simp only [cn_z] at z53
      have hq53:0≤q53:=by rw [h53];grind
      refine Zbj (x:=cn q53) (by simp only [cn_z];omega) (by first|exact h0|(simp only [cn_q];assumption)) (cn_q _) ?_
      refine⟨fun e5=> ?_,fun e5=> ?_⟩
      ·have f56:((unB q53:Nat):Int) >0:=of_decide_eq_true e5
       refine Ziy (unB q53) 63 9223372036854775808 rfl rfl rfl (by have:=(Zbu hq53).1;omega) (by decide) ?_
       refine Eq.trans (b:= .tup [.one (.d (.v (.int .u64 (((ovB q44+9223372036854775808:Nat):Int))))),.one (.d (.v (.int .u64 (((unB q53+9223372036854775808:Nat):Int))))),.one (.d (.v (.int .i64 (0))))]) ?_ rfl
       rw [el,eh]
       obtain⟨e1,e2,e3⟩:=t_ok hnl
       rw [e1,e2,e3]
       rw [ZaT f41,h44]
       rw [Zcm f50 (by rw [← h53];omega),h53]
       all_goals rfl
      ·have f56:¬ (((unB q53:Nat):Int) >0):=of_decide_eq_false e5
       refine Eq.trans (b:= .tup [.one (.d (.v (.int .u64 (((ovB q44+9223372036854775808:Nat):Int))))),.one (.d (.v (.int .u64 (((unB q53:Nat):Int))))),.one (.d (.v (.int .i64 (0))))]) ?_ rfl
       rw [el,eh]
       obtain⟨e1,e2,e3⟩:=t_ok hnl
       rw [e1,e2,e3]
       rw [ZaT f41,h44]
       have ez:unB q53=0:=by omega
       rw [Zbv f50 (by rw [← h53];omega),ez]
       all_goals rfl
     ·have f50:¬ (y.q< 0):=fun hh=>of_decide_eq_false e4 ((ZaP h49).2 hh)
      refine Eq.trans (b:= .tup [.one (.d (.v (.int .u64 (((ovB q44+9223372036854775808:Nat):Int))))),.one (.d (.v (.int .u64 (((ovB q36:Nat):Int))))),.one (.d (.v (.int .i64 (0))))]) ?_ rfl
      rw [el,eh]
      obtain⟨e1,e2,e3⟩:=t_ok hnl
      rw [e1,e2,e3]
      rw [ZaT f41,h44]
      have e36:q36=y.q:=by rw [h36,h35];exact max0 f50
      rw [Zcl f50,e36]
      all_goals rfl
    ·have f41:¬ (x.q< 0):=fun hh=>of_decide_eq_false e3 ((ZaP h40).2 hh)
     refine ZcE (x:=y) (by omega) fun n49 h49=> ?_
     refine⟨fun e6=> ?_,fun e6=> ?_⟩
     ·have f50:y.q< 0:=(ZaP h49).1 (of_decide_eq_true e6)
      refine Zbm (x:=y) (by omega) fun q53 h53 z53=> ?_
      simp only [cn_z] at z53
      have hq53:0≤q53:=by rw [h53];grind
      refine Zbj (x:=cn q53) (by simp only [cn_z];omega) (by first|exact h0|(simp only [cn_q];assumption)) (cn_q _) ?_
      refine⟨fun e7=> ?_,fun e7=> ?_⟩
      ·have f56:((unB q53:Nat):Int) >0:=of_decide_eq_true e7
       refine Ziy (unB q53) 63 9223372036854775808 rfl rfl rfl (by have:=(Zbu hq53).1;omega) (by decide) ?_
       refine Eq.trans (b:= .tup [.one (.d (.v (.int .u64 (((unB q31:Nat):Int))))),.one (.d (.v (.int .u64 (((unB q53+9223372036854775808:Nat):Int))))),.one (.d (.v (.int .i64 (0))))]) ?_ rfl
       rw [el,eh]
       obtain⟨e1,e2,e3⟩:=t_ok hnl
       rw [e1,e2,e3]
       have e31:q31=x.q:=by rw [h31,h30];exact max0 f41
       rw [Zbf f41,e31]
       rw [Zcm f50 (by rw [← h53];omega),h53]
       all_goals rfl
      ·have f56:¬ (((unB q53:Nat):Int) >0):=of_decide_eq_false e7
       refine Eq.trans (b:= .tup [.one (.d (.v (.int .u64 (((unB q31:Nat):Int))))),.one (.d (.v (.int .u64 (((unB q53:Nat):Int))))),.one (.d (.v (.int .i64 (0))))]) ?_ rfl
       rw [el,eh]
       obtain⟨e1,e2,e3⟩:=t_ok hnl
       rw [e1,e2,e3]
       have e31:q31=x.q:=by rw [h31,h30];exact max0 f41
       rw [Zbf f41,e31]
       have ez:unB q53=0:=by omega
       rw [Zbv f50 (by rw [← h53];omega),ez]
       all_goals rfl
     ·have f50:¬ (y.q< 0):=fun hh=>of_decide_eq_false e6 ((ZaP h49).2 hh)
      refine Eq.trans (b:= .tup [.one (.d (.v (.int .u64 (((unB q31:Nat):Int))))),.one (.d (.v (.int .u64 (((ovB q36:Nat):Int))))),.one (.d (.v (.int .i64 (0))))]) ?_ rfl
      rw [el,eh]
      obtain⟨e1,e2,e3⟩:=t_ok hnl
      rw [e1,e2,e3]
      have e31:q31=x.q:=by rw [h31,h30];exact max0 f41
      rw [Zbf f41,e31]
      have e36:q36=y.q:=by rw [h36,h35];exact max0 f50
      rw [Zcl f50,e36]
      all_goals rfl
 ·refine⟨fun _=> ?_,fun e=>absurd e (by decide)⟩
  refine k_of (0) (by omega) (by omega) fun q11 h11 z11=> ?_
  simp only [cn_z] at z11
  refine ZkC (x:=cn q11) (by simp only [cn_z];omega) fun q12 h12 z12=> ?_
  simp only [cn_z,cn_q] at h12 z12
  have el:slo x y=q12:=by rw [ZgI g9,h12,h11]
  have eh:shi x y=q12:=by rw [ZgK g9,h12,h11]
  refine⟨_,⟨_,rfl,rfl,(fun w=>Zgj w)⟩,?_⟩
  refine Zbn (9218868437227405311) (by first|rfl|(rw [bwu64 (by omega) (by omega)];omega)) (by omega) fun q14 h14 z14=> ?_
  simp only [cn_z] at z14
  refine Zbm (x:=cn q14) (by simp only [cn_z];omega) fun q18 h18 z18=> ?_
  simp only [cn_z] at z18
  simp only [cn_q] at h18
  refine ZM (x:=cn q12) (y:=cn q18) (by simp only [cn_z];omega) (by simp only [cn_z];omega) fun n19 h19=> ?_
  simp only [cn_q] at h19
  refine fork (fun e8=> ?_) (fun e8=> ?_)
  ·have f21:q12< q18:=(ZbM h19).1 (of_decide_eq_true e8)
   refine⟨by kernel_rfl,?_⟩
   refine⟨fun _=> ?_,fun e=>absurd e (by decide)⟩
   refine Eq.trans (b:= .tup [.one (.d (.v (.int .u64 (0)))),.one (.d (.v (.int .u64 (0)))),.one (.d (.v (.int .i64 (2))))]) ?_ rfl
   rw [el,eh]
   obtain⟨e1,e2,e3⟩:=ZcV (l:=q12) (h:=q12) (.inl (by rw [← h14,← h18];exact f21))
   rw [e1,e2,e3]
   all_goals rfl
  ·have f21:¬ (q12< q18):=fun hh=>of_decide_eq_false e8 ((ZbM h19).2 hh)
   refine ZM (x:=cn q12) (y:=cn q14) (by simp only [cn_z];omega) (by simp only [cn_z];omega) fun n25 h25=> ?_
   simp only [cn_q] at h25
   refine⟨by kernel_rfl,?_⟩
   refine⟨fun e9=> ?_,fun e9=> ?_⟩
   ·have f27:q14< q12:=(ZaR h25).1 (of_decide_eq_true e9)
    refine Eq.trans (b:= .tup [.one (.d (.v (.int .u64 (0)))),.one (.d (.v (.int .u64 (0)))),.one (.d (.v (.int .i64 (2))))]) ?_ rfl
    rw [el,eh]
    obtain⟨e1,e2,e3⟩:=ZcV (l:=q12) (h:=q12) (.inr (by rw [← h14];exact f27))
    rw [e1,e2,e3]
    all_goals rfl
   ·have f27:¬ (q14< q12):=fun hh=>of_decide_eq_false e9 ((ZaR h25).2 hh)
    have hnl:¬ (q12< -fltQ mxB∨fltQ mxB< q12):=by rintro(h|h);exact f21 (by rw [h18,h14];exact h);exact f27 (by rw [h14];exact h)
    have hp0:=ZdV mxB
    refine k_of (0) (by omega) (by omega) fun q30 h30 z30=> ?_
    simp only [cn_z] at z30
    refine ZiA (x:=cn q12) (y:=cn q30) (by simp only [cn_z];omega) (by simp only [cn_z];omega) fun q31 h31 z31=> ?_
    simp only [cn_z] at z31
    simp only [cn_q] at h31
    have hq31:0≤q31:=by rw [h31,h30];exact Zf9 _
    refine Zbj (x:=cn q31) (by simp only [cn_z];omega) (by first|exact h0|(simp only [cn_q];assumption)) (cn_q _) ?_
    refine k_of (0) (by omega) (by omega) fun q35 h35 z35=> ?_
    simp only [cn_z] at z35
    refine ZiA (x:=cn q12) (y:=cn q35) (by simp only [cn_z];omega) (by simp only [cn_z];omega) fun q36 h36 z36=> ?_
    simp only [cn_z] at z36
    simp only [cn_q] at h36
    have hq36:0≤q36:=by rw [h36,h35];exact Zf9 _
    have hm36:q36≤fltQ mxB:=by rw [h36,h35];exact max_le (fun h=>hnl (.inr h)) hp0
    refine Zgc (x:=cn q36) (by simp only [cn_z];omega) (by simp only [cn_q];assumption) (cn_q _) (by assumption) ?_
    refine⟨by kernel_rfl,?_⟩
    refine ZcE (x:=cn q12) (by simp only [cn_z];omega) fun n40 h40=> ?_
    simp only [cn_q] at h40
    refine⟨fun e10=> ?_,fun e10=> ?_⟩
    ·have f41:q12< 0:=(ZaP h40).1 (of_decide_eq_true e10)
     refine Zbm (x:=cn q12) (by simp only [cn_z];omega) fun q44 h44 z44=> ?_
     simp only [cn_z] at z44
     simp only [cn_q] at h44
     have hq44:0≤q44:=by rw [h44];grind
     have hm44:q44≤fltQ mxB:=by rw [h44];grind
     refine Zgc (x:=cn q44) (by simp only [cn_z];omega) (by simp only [cn_q];assumption) (cn_q _) (by assumption) ?_
     refine Zlm (ovB q44) rfl (by have:ovB q44≤9218868437227405311:=(ZjB hq44 hm44).1;omega) ?_
     refine ZcE (x:=cn q12) (by simp only [cn_z];omega) fun n49 h49=> ?_
     simp only [cn_q] at h49
     refine⟨fun e11=> ?_,fun e11=> ?_⟩
     ·have f50:q12< 0:=(ZaP h49).1 (of_decide_eq_true e11)
      refine Zbm (x:=cn q12) (by simp only [cn_z];omega) fun q53 h53 z53=> ?_
      simp only [cn_z] at z53
      simp only [cn_q] at h53
      have hq53:0≤q53:=by rw [h53];grind
      refine Zbj (x:=cn q53) (by simp only [cn_z];omega) (by first|exact h0|(simp only [cn_q];assumption)) (cn_q _) ?_
      refine⟨fun e12=> ?_,fun e12=> ?_⟩
      ·have f56:((unB q53:Nat):Int) >0:=of_decide_eq_true e12
       refine Ziy (unB q53) 63 9223372036854775808 rfl rfl rfl (by have:=(Zbu hq53).1;omega) (by decide) ?_
       refine Eq.trans (b:= .tup [.one (.d (.v (.int .u64 (((ovB q44+9223372036854775808:Nat):Int))))),.one (.d (.v (.int .u64 (((unB q53+9223372036854775808:Nat):Int))))),.one (.d (.v (.int .i64 (0))))]) ?_ rfl
       rw [el,eh]
       obtain⟨e1,e2,e3⟩:=t_ok hnl
       rw [e1,e2,e3]
       rw [ZaT f41,h44]
       rw [Zcm f50 (by rw [← h53];omega),h53]
       all_goals rfl
      ·have f56:¬ (((unB q53:Nat):Int) >0):=of_decide_eq_false e12
       refine Eq.trans (b:= .tup [.one (.d (.v (.int .u64 (((ovB q44+9223372036854775808:Nat):Int))))),.one (.d (.v (.int .u64 (((unB q53:Nat):Int))))),.one (.d (.v (.int .i64 (0))))]) ?_ rfl
       rw [el,eh]
       obtain⟨e1,e2,e3⟩:=t_ok hnl
       rw [e1,e2,e3]
       rw [ZaT f41,h44]
       have ez:unB q53=0:=by omega
       rw [Zbv f50 (by rw [← h53];omega),ez]
       all_goals rfl
     ·have f50:¬ (q12< 0):=fun hh=>of_decide_eq_false e11 ((ZaP h49).2 hh)
      refine Eq.trans (b:= .tup [.one (.d (.v (.int .u64 (((ovB q44+9223372036854775808:Nat):Int))))),.one (.d (.v (.int .u64 (((ovB q36:Nat):Int))))),.one (.d (.v (.int .i64 (0))))]) ?_ rfl
      rw [el,eh]
      obtain⟨e1,e2,e3⟩:=t_ok hnl
      rw [e1,e2,e3]
      rw [ZaT f41,h44]
      have e36:q36=q12:=by rw [h36,h35];exact max0 f50
      rw [Zcl f50,e36]
      all_goals rfl
    ·have f41:¬ (q12< 0):=fun hh=>of_decide_eq_false e10 ((ZaP h40).2 hh)
     refine ZcE (x:=cn q12) (by simp only [cn_z];omega) fun n49 h49=> ?_
     simp only [cn_q] at h49
     refine⟨fun e13=> ?_,fun e13=> ?_⟩
     ·have f50:q12< 0:=(ZaP h49).1 (of_decide_eq_true e13)
      refine Zbm (x:=cn q12) (by simp only [cn_z];omega) fun q53 h53 z53=> ?_
      simp only [cn_z] at z53
      simp only [cn_q] at h53
      have hq53:0≤q53:=by rw [h53];grind
      refine Zbj (x:=cn q53) (by simp only [cn_z];omega) (by first|exact h0|(simp only [cn_q];assumption)) (cn_q _) ?_
      refine⟨fun e14=> ?_,fun e14=> ?_⟩
      ·have f56:((unB q53:Nat):Int) >0:=of_decide_eq_true e14
       refine Ziy (unB q53) 63 9223372036854775808 rfl rfl rfl (by have:=(Zbu hq53).1;omega) (by decide) ?_
       refine Eq.trans (b:= .tup [.one (.d (.v (.int .u64 (((unB q31:Nat):Int))))),.one (.d (.v (.int .u64 (((unB q53+9223372036854775808:Nat):Int))))),.one (.d (.v (.int .i64 (0))))]) ?_ rfl
       rw [el,eh]
       obtain⟨e1,e2,e3⟩:=t_ok hnl
       rw [e1,e2,e3]
       have e31:q31=q12:=by rw [h31,h30];exact max0 f41
       rw [Zbf f41,e31]
       rw [Zcm f50 (by rw [← h53];omega),h53]
       all_goals rfl
      ·have f56:¬ (((unB q53:Nat):Int) >0):=of_decide_eq_false e14
       refine Eq.trans (b:= .tup [.one (.d (.v (.int .u64 (((unB q31:Nat):Int))))),.one (.d (.v (.int .u64 (((unB q53:Nat):Int))))),.one (.d (.v (.int .i64 (0))))]) ?_ rfl
       rw [el,eh]
       obtain⟨e1,e2,e3⟩:=t_ok hnl
       rw [e1,e2,e3]
       have e31:q31=q12:=by rw [h31,h30];exact max0 f41
       rw [Zbf f41,e31]
       have ez:unB q53=0:=by omega
       rw [Zbv f50 (by rw [← h53];omega),ez]
       all_goals rfl
     ·have f50:¬ (q12< 0):=fun hh=>of_decide_eq_false e13 ((ZaP h49).2 hh)
      refine Eq.trans (b:= .tup [.one (.d (.v (.int .u64 (((unB q31:Nat):Int))))),.one (.d (.v (.int .u64 (((ovB q36:Nat):Int))))),.one (.d (.v (.int .i64 (0))))]) ?_ rfl
      rw [el,eh]
      obtain⟨e1,e2,e3⟩:=t_ok hnl
      rw [e1,e2,e3]
      have e31:q31=q12:=by rw [h31,h30];exact max0 f41
      rw [Zbf f41,e31]
      have e36:q36=q12:=by rw [h36,h35];exact max0 f50
      rw [Zcl f50,e36]
      all_goals rfl
end
end Go.Proofs.YtbgokkfhohodgaaGreatDoor.eng
namespace Go.Proofs.YtbgokkfhohodgaaGreatDoor.eng
open Go.RowKit num mem seg q held ratA ratB ratC ratD ratE vars ratF
set_option exponentiation.threshold 4000
section
variable {K : AV → Prop}
theorem ZiL {b n d:Nat} (hd:0< d) (h:n*2 ^ (1075 - fe b)=fm b*2 ^ (fe b - 1075)*d):Fr ⟨true,enc n,enc d⟩ (-fltQ b):=by
 obtain⟨h1,h2⟩:=ZeI hd h
 refine⟨h1,?_⟩
 have e:mkRat (sg false (nv (enc n))) (nv (enc d))=fltQ b:=h2
 show mkRat (sg true (nv (enc n))) (nv (enc d))=_
 rw [← e]
 show mkRat (-((nv (enc n):Nat):Int)) (nv (enc d))=-mkRat ((nv (enc n):Nat):Int) (nv (enc d))
 rw [Rat.neg_mkRat]
theorem Zgi {b d k:Nat} (h:0*2 ^ k=fm b*2 ^ (fe b - 1075)*d) (hd:0< d):fltQ b=0:=by
 have h0:fm b*2 ^ (fe b - 1075)*d=0:=by rw [← h,Nat.zero_mul]
 have:fm b=0:=by
  rcases Nat.mul_eq_zero.1 h0 with h1|h1
  ·rcases Nat.mul_eq_zero.1 h1 with h2|h2
   ·exact h2
   ·have:=Nat.two_pow_pos (fe b - 1075);omega
  ·omega
 unfold fltQ fF
 rw [this,Nat.zero_mul]
 decide+kernel
set_option maxHeartbeats 4000000 in
theorem ZfL (b c:Nat) (hc:c=b+9223372036854775808) (hb:b≤9218868437227405312):Spec Tryz.prog Tab 20 [.val (.one (.d (.v (.int .u64 ((c:Int))))))] (rat (cn (-fltQ b))):=by
 have hle:=ZjW hb
 have hfm:=ZjT b
 refine Zy Tryz.func20 rfl rfl Tryz.ntmps20 rfl (by kernel_rfl) rfl rfl ?_
 refine Zay (c) 63 9223372036854775808 rfl rfl (by decide) (by decide) ?_
 refine Zay (c) 52 4503599627370496 rfl rfl (by decide) (by decide) ?_
 refine ZcH ((c / 4503599627370496)) 11 2048 rfl rfl rfl (by omega) (by decide) ?_
 refine ZcG (((c / 4503599627370496) % 2048)) (by first|rfl|(rw [bwu64 (by omega) (by omega)];omega)) (by omega) ?_
 refine ZcH (c) 52 4503599627370496 rfl rfl rfl (by omega) (by decide) ?_
 refine⟨fun e1=> ?_,fun e1=> ?_⟩
 ·have f20:((((c / 4503599627370496) % 2048):Nat):Int) >0:=of_decide_eq_true e1
  have hfe:=Zfw (b:=b) (by omega)
  refine⟨⟨by omega,rfl,(by show 8*1≤_;omega),by omega⟩,?_⟩
  have hL8:(List.replicate (8:Int).toNat [D.v (.int .u8 (0))]).length=8:=List.length_replicate ..
  refine⟨Nat,fun i=> [(2,.val (.one (.ptr 2 0))),(3,bool (((c / 9223372036854775808:Nat):Int)==1)),(4,int ((((c / 4503599627370496) % 2048):Nat):Int)),(5,.val (.one (.d (.v (.int .u64 (IntKind.u64.wrap (((c % 4503599627370496:Nat):Int)+4503599627370496))))))),(6,.val (.one (.row 23 0))),(25,int ((List.replicate (8:Int).toNat [D.v (.int .u8 (0))]).length:Int)),(26,int (i:Int))],
   fun i=> [(2,.var 23 [.d (.v (.bool z0.s)),.d (.v (.string z0.a)),.d (.v (.string z0.d))]),(23,.row 5 1 0 (flL (fm b) i) true)],fun i=>i≤8,fun i=>8 - i,0,?_,Nat.zero_le _,fun i hs=> ?_⟩
  ·constructor<;>(repeat' (first|exact rfl|exact True.intro|exact⟨_,_,rfl⟩|exact(by decide)|apply And.intro))
   all_goals first
    |exact ZeK _
    |exact(ZeK _).symm
    |exact congrArg (fun n:Int=>D.v (.int .u64 n)) (by omega)
  have hT:=ZdW (fm b) i
  have hw8:IntKind.i64.wrap (8*(i:Int))=8*(i:Int):=wrap64 _ (by omega) (by omega)
  refine⟨fun e2=> ?_,fun e2=> ?_⟩
  ·have f27:(i:Int)< ((List.replicate (8:Int).toNat [D.v (.int .u8 (0))]).length:Int):=of_decide_eq_true e2
   refine Zay (fm b) (56 - 8*i) (2 ^ (56 - 8*i)) (by first|omega|(rw [bwu64 (by omega) (by omega)];omega)) (by rw [hw8,wrap64 _ (by omega) (by omega)];omega) rfl (by omega) ?_
   refine ZdQ ((fm b / 2 ^ (56 - 8*i))) rfl ?_
   refine Za2 i (by first|rfl|omega|(rw [wrap64 _ (by omega) (by omega)];omega)|(rw [wrap64 _ (by omega) (by omega)];split<;>omega)) (by rw [hT];omega) ?_
   refine⟨(by rw [hT];omega),?_⟩
   refine⟨i+1,by omega,by simp only;omega,?_⟩
   constructor<;>(repeat' (first|exact rfl|exact True.intro|apply And.intro))
   all_goals first
    |exact(ZeJ (by omega)).symm
    |exact ZeJ (by omega)
    |exact congrArg (fun n:Int=>D.v (.int .i64 n)) (by rw [wrap64 _ (by omega) (by omega)];omega)
    |exact congrArg (fun n:Int=>D.v (.int .i64 n)) (by omega)
  ·have f27:¬ ((i:Int)< ((List.replicate (8:Int).toNat [D.v (.int .u8 (0))]).length:Int)):=of_decide_eq_false e2
   refine ZeG (flN (fm b)) (strOfNums (flN (fm b))) (by rw [show i=8 by omega];exact ZjV _) rfl ?_
   refine Zbk (fm b) (Zgk (by omega)) ?_
   refine⟨Nat,fun j=> [(2,.val (.one (.ptr 2 0))),(3,bool (((c / 9223372036854775808:Nat):Int)==1)),(4,int ((((c / 4503599627370496) % 2048):Nat):Int)),(8,str (enc (fm b*2 ^ j))),(9,str (ByteArray.mk #[1])),(44,int ((fe b - 1075:Nat):Int)),(45,int (j:Int))],
    fun j=> [(2,.var 23 [.d (.v (.bool z0.s)),.d (.v (.string z0.a)),.d (.v (.string z0.d))])],fun j=>j≤fe b - 1075,fun j=>fe b - 1075 - j,0,?_,Nat.zero_le _,fun j hs=> ?_⟩
   ·constructor<;>(repeat' (first|exact rfl|exact True.intro|exact⟨_,_,rfl⟩|exact(by decide)|apply And.intro))
    all_goals first
     |exact congrArg (fun n:Int=>D.v (.int .i64 n)) (by rw [wrap64 _ (by omega) (by omega)];split<;>omega)
     |exact congrArg (fun s:ByteArray=>D.v (.string s)) (by rw [Nat.pow_zero,Nat.mul_one])
     |exact congrArg (fun n:Int=>D.v (.int .i64 n)) (by omega)
   have hbz:=Zb1 hs hle.2
   refine⟨fun e3=> ?_,fun e3=> ?_⟩
   ·have f46:(j:Int)< ((fe b - 1075:Nat):Int):=of_decide_eq_true e3
    refine ZY (fm b*2 ^ j) (fm b*2 ^ j) (Za _) (Za _) (Nat.le_trans (ZA hbz) (by decide)) (Nat.le_trans (ZA hbz) (by decide)) ?_
    refine⟨j+1,by omega,by simp only;omega,?_⟩
    constructor<;>(repeat' (first|exact rfl|exact True.intro|apply And.intro))
    all_goals first
     |exact congrArg (fun s:ByteArray=>D.v (.string s)) (by rw [Nat.pow_succ,← Nat.mul_assoc,Nat.mul_two])
     |rfl
     |exact congrArg (fun n:Int=>D.v (.int .i64 n)) (by rw [wrap64 _ (by omega) (by omega)];omega)
     |exact congrArg (fun n:Int=>D.v (.int .i64 n)) (by omega)
   ·have f46:¬ ((j:Int)< ((fe b - 1075:Nat):Int)):=of_decide_eq_false e3
    have hj:j=fe b - 1075:=by omega
    refine⟨Nat×Nat×Nat,fun (k,n,d)=> [(2,.val (.one (.ptr 2 0))),(3,bool (((c / 9223372036854775808:Nat):Int)==1)),(8,str (enc n)),(9,str (enc d)),(53,int ((1075 - fe b:Nat):Int)),(54,int (k:Int))],
     fun (k,n,d)=> [(2,.var 23 [.d (.v (.bool z0.s)),.d (.v (.string z0.a)),.d (.v (.string z0.d))])],fun (k,n,d)=>k≤1075 - fe b∧0< d∧n*2 ^ k=fm b*2 ^ (fe b - 1075)*d∧n≤fm b*2 ^ (fe b - 1075)∧d≤2 ^ k,fun (k,n,d)=>1075 - fe b - k,(0,fm b*2 ^ j,1),?_,⟨Nat.zero_le _,Nat.one_pos,by rw [hj,Nat.pow_zero],by rw [hj];exact Nat.le_refl _,Nat.le_refl _⟩,fun s hs=> ?_⟩
    ·constructor<;>(repeat' (first|exact rfl|exact True.intro|exact⟨_,_,rfl⟩|exact(by decide)|apply And.intro))
     all_goals first
      |exact congrArg (fun n:Int=>D.v (.int .i64 n)) (by rw [wrap64 _ (by omega) (by omega)];split<;>omega)
      |exact congrArg (fun s:ByteArray=>D.v (.string s)) enc_one
      |exact congrArg (fun s:ByteArray=>D.v (.string s)) enc_one.symm
    obtain⟨k,n,d⟩:=s
    obtain⟨g1,h2,h3,h4,h5⟩:=hs
    try simp only at g1 h2 h3 h4 h5
    have hnz:n≤2 ^ (8*200):=Nat.le_trans h4 (Zb1 (Nat.le_refl _) hle.2)
    have hdz:d≤2 ^ (8*200):=Zf0 h5 (by omega)
    refine⟨fun e4=> ?_,fun e4=> ?_⟩
    ·have f55:(k:Int)< ((1075 - fe b:Nat):Int):=of_decide_eq_true e4
     refine Zb0 n 0 (Za _) rfl (Nat.le_trans (ZA hnz) (by decide)) (by decide) ?_
     refine fork (fun e5=> ?_) (fun e5=> ?_)
     ·have f59:((n / 2 ^ 0 % 2:Nat):Int)=1:=Zal e5
      refine⟨fun _=> ?_,fun e=>absurd e (by decide)⟩
      refine ZY (d) (d) (Za _) (Za _) (Nat.le_trans (ZA hdz) (by decide)) (Nat.le_trans (ZA hdz) (by decide)) ?_
      refine⟨(k+1,n,d+d),⟨by omega,by omega,by rw [Nat.pow_succ,← Nat.mul_assoc,h3,Nat.mul_assoc,Nat.mul_two],h4,by rw [Nat.pow_succ];omega⟩,by simp only;omega,?_⟩
      constructor<;>(repeat' (first|exact rfl|exact True.intro|apply And.intro))
      all_goals first
       |exact congrArg (fun n:Int=>D.v (.int .i64 n)) (by rw [wrap64 _ (by omega) (by omega)];omega)
       |exact congrArg (fun n:Int=>D.v (.int .i64 n)) (by omega)
     ·have f59:¬ (((n / 2 ^ 0 % 2:Nat):Int)=1):=Zam e5
      refine Zai (fun f61=> ?_) (fun f61=> ?_)
      ·refine⟨fun _=> ?_,fun e=>absurd e (by decide)⟩
       refine ZY (d) (d) (Za _) (Za _) (Nat.le_trans (ZA hdz) (by decide)) (Nat.le_trans (ZA hdz) (by decide)) ?_
       refine⟨(k+1,n,d+d),⟨by omega,by omega,by rw [Nat.pow_succ,← Nat.mul_assoc,h3,Nat.mul_assoc,Nat.mul_two],h4,by rw [Nat.pow_succ];omega⟩,by simp only;omega,?_⟩
       constructor<;>(repeat' (first|exact rfl|exact True.intro|apply And.intro))
       all_goals first
        |exact congrArg (fun n:Int=>D.v (.int .i64 n)) (by rw [wrap64 _ (by omega) (by omega)];omega)
        |exact congrArg (fun n:Int=>D.v (.int .i64 n)) (by omega)
      ·refine⟨fun e=>absurd e (by decide),fun _=> ?_⟩
       refine Z8 n (Za _) (Nat.le_trans (ZA hnz) (by decide)) ?_
       refine⟨(k+1,n / 2,d),⟨by omega,h2,by rw [Nat.pow_succ,Nat.mul_comm (2 ^ k) 2,← Nat.mul_assoc,show n / 2*2=n by omega];exact h3,by omega,by rw [Nat.pow_succ];omega⟩,by simp only;omega,?_⟩
       constructor<;>(repeat' (first|exact rfl|exact True.intro|apply And.intro))
       all_goals first
        |exact congrArg (fun n:Int=>D.v (.int .i64 n)) (by rw [wrap64 _ (by omega) (by omega)];omega)
        |exact congrArg (fun n:Int=>D.v (.int .i64 n)) (by omega)
    ·have f55:¬ ((k:Int)< ((1075 - fe b:Nat):Int)):=of_decide_eq_false e4
     refine fork (fun e6=> ?_) (fun e6=> ?_)
     ·have f70:((c / 9223372036854775808:Nat):Int)=1:=Zal e6
      refine Zbl (fun f72=> ?_) (fun f72=> ?_)
      ·have hn0:n=0:=ZiO.1 f72
       have hf0:fltQ b=0:=Zgi (k:=k) (by rw [← h3,hn0]) h2
       refine Zdl (r:=⟨false,enc n,enc d⟩) (p:=-fltQ b) (by rw [hf0,show -(0:Rat)=0 from by decide+kernel,← hf0];exact ZeI h2 (by rw [← h3];congr 2;omega)) (RV.z_of (Nat.le_trans (ZA hnz) (by decide)) (Nat.le_trans (ZA hdz) (by decide))) ?_
       refine Eq.trans (b:=rat (cn (-fltQ b))) ?_ rfl
       rfl
      ·refine Zdl (r:=⟨true,enc n,enc d⟩) (p:=-fltQ b) (ZiL h2 (by rw [← h3];congr 2;omega)) (RV.z_of (Nat.le_trans (ZA hnz) (by decide)) (Nat.le_trans (ZA hdz) (by decide))) ?_
       refine Eq.trans (b:=rat (cn (-fltQ b))) ?_ rfl
       rfl
     ·have f70:¬ (((c / 9223372036854775808:Nat):Int)=1):=Zam e6
      exfalso
      omega
 ·have f20:¬ (((((c / 4503599627370496) % 2048):Nat):Int) >0):=of_decide_eq_false e1
  have hfe:=Zfv (b:=b) (by omega)
  refine⟨⟨by omega,rfl,(by show 8*1≤_;omega),by omega⟩,?_⟩
  have hL8:(List.replicate (8:Int).toNat [D.v (.int .u8 (0))]).length=8:=List.length_replicate ..
  refine⟨Nat,fun i=> [(2,.val (.one (.ptr 2 0))),(3,bool (((c / 9223372036854775808:Nat):Int)==1)),(4,int 1),(5,.val (.one (.d (.v (.int .u64 (((c % 4503599627370496:Nat):Int))))))),(6,.val (.one (.row 23 0))),(25,int ((List.replicate (8:Int).toNat [D.v (.int .u8 (0))]).length:Int)),(26,int (i:Int))],
   fun i=> [(2,.var 23 [.d (.v (.bool z0.s)),.d (.v (.string z0.a)),.d (.v (.string z0.d))]),(23,.row 5 1 0 (flL (fm b) i) true)],fun i=>i≤8,fun i=>8 - i,0,?_,Nat.zero_le _,fun i hs=> ?_⟩
  ·constructor<;>(repeat' (first|exact rfl|exact True.intro|exact⟨_,_,rfl⟩|exact(by decide)|apply And.intro))
   all_goals first
    |exact ZeK _
    |exact(ZeK _).symm
    |exact congrArg (fun n:Int=>D.v (.int .u64 n)) (by omega)
  have hT:=ZdW (fm b) i
  have hw8:IntKind.i64.wrap (8*(i:Int))=8*(i:Int):=wrap64 _ (by omega) (by omega)
  refine⟨fun e7=> ?_,fun e7=> ?_⟩
  ·have f27:(i:Int)< ((List.replicate (8:Int).toNat [D.v (.int .u8 (0))]).length:Int):=of_decide_eq_true e7
   refine Zay (fm b) (56 - 8*i) (2 ^ (56 - 8*i)) (by first|omega|(rw [bwu64 (by omega) (by omega)];omega)) (by rw [hw8,wrap64 _ (by omega) (by omega)];omega) rfl (by omega) ?_
   refine ZdQ ((fm b / 2 ^ (56 - 8*i))) rfl ?_
   refine Za2 i (by first|rfl|omega|(rw [wrap64 _ (by omega) (by omega)];omega)|(rw [wrap64 _ (by omega) (by omega)];split<;>omega)) (by rw [hT];omega) ?_
   refine⟨(by rw [hT];omega),?_⟩
   refine⟨i+1,by omega,by simp only;omega,?_⟩
   constructor<;>(repeat' (first|exact rfl|exact True.intro|apply And.intro))
   all_goals first
    |exact(ZeJ (by omega)).symm
    |exact ZeJ (by omega)
    |exact congrArg (fun n:Int=>D.v (.int .i64 n)) (by rw [wrap64 _ (by omega) (by omega)];omega)
    |exact congrArg (fun n:Int=>D.v (.int .i64 n)) (by omega)
  ·have f27:¬ ((i:Int)< ((List.replicate (8:Int).toNat [D.v (.int .u8 (0))]).length:Int)):=of_decide_eq_false e7
   refine ZeG (flN (fm b)) (strOfNums (flN (fm b))) (by rw [show i=8 by omega];exact ZjV _) rfl ?_
   refine Zbk (fm b) (Zgk (by omega)) ?_
   refine⟨Nat,fun j=> [(2,.val (.one (.ptr 2 0))),(3,bool (((c / 9223372036854775808:Nat):Int)==1)),(4,int 1),(8,str (enc (fm b*2 ^ j))),(9,str (ByteArray.mk #[1])),(44,int ((fe b - 1075:Nat):Int)),(45,int (j:Int))],
    fun j=> [(2,.var 23 [.d (.v (.bool z0.s)),.d (.v (.string z0.a)),.d (.v (.string z0.d))])],fun j=>j≤fe b - 1075,fun j=>fe b - 1075 - j,0,?_,Nat.zero_le _,fun j hs=> ?_⟩
   ·constructor<;>(repeat' (first|exact rfl|exact True.intro|exact⟨_,_,rfl⟩|exact(by decide)|apply And.intro))
    all_goals first
     |exact congrArg (fun n:Int=>D.v (.int .i64 n)) (by rw [wrap64 _ (by omega) (by omega)];split<;>omega)
     |exact congrArg (fun s:ByteArray=>D.v (.string s)) (by rw [Nat.pow_zero,Nat.mul_one])
     |exact congrArg (fun n:Int=>D.v (.int .i64 n)) (by omega)
   have hbz:=Zb1 hs hle.2
   refine⟨fun e8=> ?_,fun e8=> ?_⟩
   ·have f46:(j:Int)< ((fe b - 1075:Nat):Int):=of_decide_eq_true e8
    refine ZY (fm b*2 ^ j) (fm b*2 ^ j) (Za _) (Za _) (Nat.le_trans (ZA hbz) (by decide)) (Nat.le_trans (ZA hbz) (by decide)) ?_
    refine⟨j+1,by omega,by simp only;omega,?_⟩
    constructor<;>(repeat' (first|exact rfl|exact True.intro|apply And.intro))
    all_goals first
     |exact congrArg (fun s:ByteArray=>D.v (.string s)) (by rw [Nat.pow_succ,← Nat.mul_assoc,Nat.mul_two])
     |rfl
     |exact congrArg (fun n:Int=>D.v (.int .i64 n)) (by rw [wrap64 _ (by omega) (by omega)];omega)
     |exact congrArg (fun n:Int=>D.v (.int .i64 n)) (by omega)
   ·have f46:¬ ((j:Int)< ((fe b - 1075:Nat):Int)):=of_decide_eq_false e8
    have hj:j=fe b - 1075:=by omega
    refine⟨Nat×Nat×Nat,fun (k,n,d)=> [(2,.val (.one (.ptr 2 0))),(3,bool (((c / 9223372036854775808:Nat):Int)==1)),(8,str (enc n)),(9,str (enc d)),(53,int ((1075 - fe b:Nat):Int)),(54,int (k:Int))],
     fun (k,n,d)=> [(2,.var 23 [.d (.v (.bool z0.s)),.d (.v (.string z0.a)),.d (.v (.string z0.d))])],fun (k,n,d)=>k≤1075 - fe b∧0< d∧n*2 ^ k=fm b*2 ^ (fe b - 1075)*d∧n≤fm b*2 ^ (fe b - 1075)∧d≤2 ^ k,fun (k,n,d)=>1075 - fe b - k,(0,fm b*2 ^ j,1),?_,⟨Nat.zero_le _,Nat.one_pos,by rw [hj,Nat.pow_zero],by rw [hj];exact Nat.le_refl _,Nat.le_refl _⟩,fun s hs=> ?_⟩
    ·constructor<;>(repeat' (first|exact rfl|exact True.intro|exact⟨_,_,rfl⟩|exact(by decide)|apply And.intro))
     all_goals first
      |exact congrArg (fun n:Int=>D.v (.int .i64 n)) (by rw [wrap64 _ (by omega) (by omega)];split<;>omega)
      |exact congrArg (fun s:ByteArray=>D.v (.string s)) enc_one
      |exact congrArg (fun s:ByteArray=>D.v (.string s)) enc_one.symm
    obtain⟨k,n,d⟩:=s
    obtain⟨g1,h2,h3,h4,h5⟩:=hs
    try simp only at g1 h2 h3 h4 h5
    have hnz:n≤2 ^ (8*200):=Nat.le_trans h4 (Zb1 (Nat.le_refl _) hle.2)
    have hdz:d≤2 ^ (8*200):=Zf0 h5 (by omega)
    refine⟨fun e9=> ?_,fun e9=> ?_⟩
    ·have f55:(k:Int)< ((1075 - fe b:Nat):Int):=of_decide_eq_true e9
     refine Zb0 n 0 (Za _) rfl (Nat.le_trans (ZA hnz) (by decide)) (by decide) ?_
     refine fork (fun e10=> ?_) (fun e10=> ?_)
     ·have f59:((n / 2 ^ 0 % 2:Nat):Int)=1:=Zal e10
      refine⟨fun _=> ?_,fun e=>absurd e (by decide)⟩
      refine ZY (d) (d) (Za _) (Za _) (Nat.le_trans (ZA hdz) (by decide)) (Nat.le_trans (ZA hdz) (by decide)) ?_
      refine⟨(k+1,n,d+d),⟨by omega,by omega,by rw [Nat.pow_succ,← Nat.mul_assoc,h3,Nat.mul_assoc,Nat.mul_two],h4,by rw [Nat.pow_succ];omega⟩,by simp only;omega,?_⟩
      constructor<;>(repeat' (first|exact rfl|exact True.intro|apply And.intro))
      all_goals first
       |exact congrArg (fun n:Int=>D.v (.int .i64 n)) (by rw [wrap64 _ (by omega) (by omega)];omega)
       |exact congrArg (fun n:Int=>D.v (.int .i64 n)) (by omega)
     ·have f59:¬ (((n / 2 ^ 0 % 2:Nat):Int)=1):=Zam e10
      refine Zai (fun f61=> ?_) (fun f61=> ?_)
      ·refine⟨fun _=> ?_,fun e=>absurd e (by decide)⟩
       refine ZY (d) (d) (Za _) (Za _) (Nat.le_trans (ZA hdz) (by decide)) (Nat.le_trans (ZA hdz) (by decide)) ?_
       refine⟨(k+1,n,d+d),⟨by omega,by omega,by rw [Nat.pow_succ,← Nat.mul_assoc,h3,Nat.mul_assoc,Nat.mul_two],h4,by rw [Nat.pow_succ];omega⟩,by simp only;omega,?_⟩
       constructor<;>(repeat' (first|exact rfl|exact True.intro|apply And.intro))
       all_goals first
        |exact congrArg (fun n:Int=>D.v (.int .i64 n)) (by rw [wrap64 _ (by omega) (by omega)];omega)
        |exact congrArg (fun n:Int=>D.v (.int .i64 n)) (by omega)
      ·refine⟨fun e=>absurd e (by decide),fun _=> ?_⟩
       refine Z8 n (Za _) (Nat.le_trans (ZA hnz) (by decide)) ?_
       refine⟨(k+1,n / 2,d),⟨by omega,h2,by rw [Nat.pow_succ,Nat.mul_comm (2 ^ k) 2,← Nat.mul_assoc,show n / 2*2=n by omega];exact h3,by omega,by rw [Nat.pow_succ];omega⟩,by simp only;omega,?_⟩
       constructor<;>(repeat' (first|exact rfl|exact True.intro|apply And.intro))
       all_goals first
        |exact congrArg (fun n:Int=>D.v (.int .i64 n)) (by rw [wrap64 _ (by omega) (by omega)];omega)
        |exact congrArg (fun n:Int=>D.v (.int .i64 n)) (by omega)
    ·have f55:¬ ((k:Int)< ((1075 - fe b:Nat):Int)):=of_decide_eq_false e9
     refine fork (fun e11=> ?_) (fun e11=> ?_)
     ·have f70:((c / 9223372036854775808:Nat):Int)=1:=Zal e11
      refine Zbl (fun f72=> ?_) (fun f72=> ?_)
      ·have hn0:n=0:=ZiO.1 f72
       have hf0:fltQ b=0:=Zgi (k:=k) (by rw [← h3,hn0]) h2
       refine Zdl (r:=⟨false,enc n,enc d⟩) (p:=-fltQ b) (by rw [hf0,show -(0:Rat)=0 from by decide+kernel,← hf0];exact ZeI h2 (by rw [← h3];congr 2;omega)) (RV.z_of (Nat.le_trans (ZA hnz) (by decide)) (Nat.le_trans (ZA hdz) (by decide))) ?_
       refine Eq.trans (b:=rat (cn (-fltQ b))) ?_ rfl
       rfl
      ·refine Zdl (r:=⟨true,enc n,enc d⟩) (p:=-fltQ b) (ZiL h2 (by rw [← h3];congr 2;omega)) (RV.z_of (Nat.le_trans (ZA hnz) (by decide)) (Nat.le_trans (ZA hdz) (by decide))) ?_
       refine Eq.trans (b:=rat (cn (-fltQ b))) ?_ rfl
       rfl
     ·have f70:¬ (((c / 9223372036854775808:Nat):Int)=1):=Zam e11
      exfalso
      omega
theorem ZaI (b c:Nat) {y:Int} (hy:y=(c:Int)) (hc:c=b+9223372036854775808) (hb:b≤9218868437227405312) (k:∀ q,q=-fltQ b→(cn q).z≤1001→K (rat (cn q))):Ask 20 [.val (.one (.d (.v (.int .u64 y))))] K:=by
 subst hy;exact use (ZfL b c hc hb) rfl (k _ rfl (by have:=ZaQ hb;have:=ZbC (fltQ b);rw [cn_z];omega))
end
end Go.Proofs.YtbgokkfhohodgaaGreatDoor.eng
namespace Go.Proofs.YtbgokkfhohodgaaGreatDoor.eng
open Go.RowKit num mem seg q held ratA ratB ratC ratD ratE vars ratF
set_option exponentiation.threshold 4000
section
variable {K : AV → Prop}
theorem Zho (b:Nat) (hb:abOk b):Spec Tryz.prog Tab 23 [.val (.one (.d (.v (.int .u64 ((b:Int))))))] (rat (cn (abQ b))):=by
 have hb64:b< 18446744073709551616:=by have:=hb;unfold abOk at this;omega
 refine Zy Tryz.func23 rfl rfl Tryz.ntmps23 rfl (by kernel_rfl) rfl rfl ?_
 refine Zay (b) 63 9223372036854775808 rfl rfl (by decide) (by decide) ?_
 refine⟨fun e1=> ?_,fun e1=> ?_⟩
 ·have f3:((b / 9223372036854775808:Nat):Int)=0:=Zal e1
  refine ZaJ (b+1) (by rw [bwu64 (by omega) (by omega)];omega) (by have:=hb;unfold abOk at this;omega) fun q9 h9 z9=> ?_
  simp only [cn_z] at z9
  refine Eq.trans (b:=rat (cn q9)) ?_ rfl
  rw [Zdz (by omega),← h9]
  all_goals rfl
 ·have f3:¬ (((b / 9223372036854775808:Nat):Int)=0):=Zam e1
  refine⟨fun e2=> ?_,fun e2=> ?_⟩
  ·have f10:(b:Int)=9223372036854775809:=Zal e2
   refine k_I (0) (by omega) (by omega) fun q13 h13 z13=> ?_
   simp only [cn_z] at z13
   refine Eq.trans (b:=rat (cn q13)) ?_ rfl
   obtain rfl:b=9223372036854775809:=by omega
   rw [Zgy,h13]
   all_goals rfl
  ·have f10:¬ ((b:Int)=9223372036854775809):=Zam e2
   refine ZaI (b - 9223372036854775809) (b - 1) (by rw [bwu64 (by omega) (by omega)];omega) (by have:=hb;unfold abOk at this;omega) (by have:=hb;unfold abOk at this;omega) fun q16 h16 z16=> ?_
   simp only [cn_z] at z16
   refine Eq.trans (b:=rat (cn q16)) ?_ rfl
   rw [Zgz (by have:=hb;unfold abOk at this;omega) (by omega),← h16]
   all_goals rfl
theorem Zbo (b:Nat) {y:Int} (hy:y=(b:Int)) (hb:abOk b) (k:∀ q,q=abQ b→(cn q).z≤1001→K (rat (cn q))):Ask 23 [.val (.one (.d (.v (.int .u64 y))))] K:=by
 subst hy
 refine use (Zho b hb) rfl (k _ rfl ?_)
 rw [cn_z]
 by_cases h:b< 9223372036854775808
 ·rw [Zdz h];have:=ZaQ (b:=b+1) (by unfold abOk at hb;omega);omega
 ·by_cases g:b=9223372036854775809
  ·rw [g,Zgy];decide+kernel
  ·rw [Zgz (by unfold abOk at hb;omega) g]
   have:=ZaQ (b:=b - 9223372036854775809) (by unfold abOk at hb;omega)
   have:=ZbC (fltQ (b - 9223372036854775809))
   omega
theorem Zjl (T:TypeId) (ox oy:Operand) (n m:Nat) (hn:n< 18446744073709551616) (hm:m< 18446744073709551616) (w:World):(do eqGuard .xor T ox oy (.int .u64 (n:Int)) (.int .u64 (m:Int));binOp .xor T (.int .u64 (n:Int)) (.int .u64 (m:Int)):Sem Value).run Tryz.prog w= .ok (.int .u64 ((n ^^^ m:Nat):Int)) w:=by
 rw [← u64_xor_nat n m hn hm]
 simp [go_sem]
theorem Zhr {n:Nat} (h:n< 9223372036854775808):n ^^^ 9223372036854775808=n+9223372036854775808:=by
 have e:n+9223372036854775808=2 ^ 63|||n:=by
  have:=Nat.two_pow_add_eq_or_of_lt (i:=63) (b:=n) (by omega) 1
  rw [Nat.add_comm];simpa using this
 rw [e]
 apply Nat.eq_of_testBit_eq
 intro i
 rw [show 9223372036854775808=2 ^ 63 from rfl,Nat.testBit_xor,Nat.testBit_or,Nat.testBit_two_pow]
 by_cases hi:63=i
 ·subst hi
  rw [Nat.testBit_lt_two_pow (by omega)];simp
 ·simp [hi]
def flipT (b c:Nat):Prop:=(b< 9223372036854775808∧c=b+9223372036854775808)∨(b=c+9223372036854775808∧c< 9223372036854775808)
theorem ZjU {b c:Nat} (h:flipT b c):b ^^^ 9223372036854775808=c:=by
 rcases h with ⟨h1,rfl⟩|⟨rfl,h1⟩
 ·exact Zhr h1
 ·rw [← Zhr h1,Nat.xor_assoc,Nat.xor_self,Nat.xor_zero]
theorem Zlg {ox oy:Operand} {T:TypeId} {x:Int} (b c:Nat) (hx:x=b) (h:flipT b c) (k:K (one (.int .u64 ((c:Nat):Int)))):AskB .xor T ox oy (.int .u64 x) (.int .u64 9223372036854775808) K:=by
 subst hx
 refine⟨_,⟨_,rfl,rfl,Zjl T ox oy b 9223372036854775808 (by unfold flipT at h;omega) (by decide)⟩,?_⟩
 rw [ZjU h];exact k
theorem Zhl (b c:Nat) (hf:flipT b c) (hb:abOk c):Spec Tryz.prog Tab 25 [.val (.one (.d (.v (.int .u64 ((b:Int)))))),.val (.one (.ref [D.v (.func (.func 23) #[] #[])]))] (rat (cn (-abQ c))):=by
 refine Zy Tryz.func25 rfl rfl Tryz.ntmps25 rfl (by kernel_rfl) rfl rfl ?_
 refine Zlg b c rfl hf ?_
 refine Zbo c rfl hb fun q7 h7 z7=> ?_
 simp only [cn_z] at z7
 refine Zbm (x:=cn q7) (by simp only [cn_z];omega) fun q8 h8 z8=> ?_
 simp only [cn_z] at z8
 simp only [cn_q] at h8
 refine Eq.trans (b:=rat (cn q8)) ?_ rfl
 rw [h8,h7]
 all_goals rfl
theorem ZfG (y:Int):Spec Tryz.prog Tab 26 [.val (.one (.d (.v (.int .u64 (y)))))] (rat (cn (-fltQ 1))):=by
 refine Zy Tryz.func26 rfl rfl Tryz.ntmps26 rfl (by kernel_rfl) rfl rfl ?_
 refine ZaI 1 9223372036854775809 rfl rfl (by decide) fun q3 h3 z3=> ?_
 refine Eq.trans (b:=rat (cn q3)) ?_ rfl
 rw [h3]
 all_goals rfl
theorem ab_z {b:Nat} (hb:abOk b):qs (abQ b)≤1001:=by
 by_cases h:b< 9223372036854775808
 ·rw [Zdz h];have:=ZaQ (b:=b+1) (by unfold abOk at hb;omega);omega
 ·by_cases g:b=9223372036854775809
  ·rw [g,Zgy];decide+kernel
  ·rw [Zgz (by unfold abOk at hb;omega) g]
   have:=ZaQ (b:=b - 9223372036854775809) (by unfold abOk at hb;omega)
   have:=ZbC (fltQ (b - 9223372036854775809))
   omega
theorem ZdS (b c:Nat) {y:Int} (hy:y=(b:Int)) (hf:flipT b c) (hb:abOk c) (k:∀ q,q=-abQ c→(cn q).z≤1002→K (rat (cn q))):Ask 25 [.val (.one (.d (.v (.int .u64 y)))),.val (.one (.ref [.v (.func (.func 23) #[] #[])]))] K:=by
 subst hy
 exact use (Zhl b c hf hb) rfl (k _ rfl (by have:=ab_z hb;have:=ZbC (abQ c);rw [cn_z];omega))
theorem Zgd {y:Int} (k:∀ q,q=-fltQ 1→(cn q).z≤1002→K (rat (cn q))):Ask 26 [.val (.one (.d (.v (.int .u64 y))))] K:=
 use (ZfG y) rfl (k _ rfl (by have:=ZaQ (b:=1) (by decide);have:=ZbC (fltQ 1);rw [cn_z];omega))
set_option maxHeartbeats 16000000 in
theorem ZdZ (x y:RV) (hx:x.z≤1048576) (hy:y.z≤1048576):Spec Tryz.prog Tab 5 [pair x y] (bool true):=by
 obtain⟨l,hl⟩:∃ l,l=slo x y:=⟨_,rfl⟩
 obtain⟨h,hh⟩:∃ h,h=shi x y:=⟨_,rfl⟩
 have hle:l≤h:=by rw [hl,hh];exact ZhF x y
 have zl:qs l≤1048584:=by have:=Zko x y;rw [cn_z] at this;rw [hl];omega
 have zh:qs h≤1048584:=by have:=Zkp x y;rw [cn_z] at this;rw [hh];omega
 refine Zy Tryz.func5 rfl rfl Tryz.ntmps5 rfl (by kernel_rfl) rfl rfl ?_
 refine ZdR ?_
 refine⟨fun e=>absurd e (by decide),fun _=> ?_⟩
 refine use (show Spec _ _ _ _ (pair (cn l) (cn h)) by rw [hl,hh];exact Zhp x y (by omega) (by omega)) rfl ?_
 refine use (show Spec _ _ _ _ (.tup [.one (.d (.v (.int .u64 (((tL l h:Nat):Int))))),.one (.d (.v (.int .u64 (((tH l h:Nat):Int))))),.one (.d (.v (.int .i64 ((tE l h)))))]) by rw [hl,hh];exact ZkP x y hx hy) rfl ?_
 refine ZaJ 9218868437227405311 rfl (by decide) fun q20 h20 z20=> ?_
 simp only [cn_z] at z20
 refine Zbm (x:=cn q20) (by simp only [cn_z];omega) fun q24 h24 z24=> ?_
 simp only [cn_z] at z24
 simp only [cn_q] at h24
 refine ZM (x:=cn l) (y:=cn q24) (by simp only [cn_z];omega) (by simp only [cn_z];omega) fun n25 h25=> ?_
 simp only [cn_q] at h25
 refine fork (fun e1=> ?_) (fun e1=> ?_)
 ·have f27:l< q24:=(ZbM h25).1 (of_decide_eq_true e1)
  refine⟨by kernel_rfl,?_⟩
  refine⟨fun _=> ?_,fun e=>absurd e (by decide)⟩
  refine fork (fun e2=> ?_) (fun e2=> ?_)
  ·have f36:((tL l h:Nat):Int)=0:=Zal e2
   refine fork (fun e3=> ?_) (fun e3=> ?_)
   ·have f40:((tH l h:Nat):Int)=0:=Zal e3
    refine Eq.trans (b:=bool ((tE l h)==2)) ?_ rfl
    rw [(ZcV (.inl (by rw [← h20,← h24];exact f27))).2.2]
    all_goals rfl
   ·have f40:¬ (((tH l h:Nat):Int)=0):=Zam e3
    exfalso
    exact f40 (by rw [(ZcV (.inl (by rw [← h20,← h24];exact f27))).2.1];rfl)
  ·have f36:¬ (((tL l h:Nat):Int)=0):=Zam e2
   exfalso
   exact f36 (by rw [(ZcV (.inl (by rw [← h20,← h24];exact f27))).1];rfl)
 ·have f27:¬ (l< q24):=fun hh=>of_decide_eq_false e1 ((ZbM h25).2 hh)
  refine ZM (x:=cn h) (y:=cn q20) (by simp only [cn_z];omega) (by simp only [cn_z];omega) fun n31 h31=> ?_
  simp only [cn_q] at h31
  refine⟨by kernel_rfl,?_⟩
  refine⟨fun e4=> ?_,fun e4=> ?_⟩
  ·have f33:q20< h:=(ZaR h31).1 (of_decide_eq_true e4)
   refine fork (fun e5=> ?_) (fun e5=> ?_)
   ·have f36:((tL l h:Nat):Int)=0:=Zal e5
    refine fork (fun e6=> ?_) (fun e6=> ?_)
    ·have f40:((tH l h:Nat):Int)=0:=Zal e6
     refine Eq.trans (b:=bool ((tE l h)==2)) ?_ rfl
     rw [(ZcV (.inr (by rw [← h20];exact f33))).2.2]
     all_goals rfl
    ·have f40:¬ (((tH l h:Nat):Int)=0):=Zam e6
     exfalso
     exact f40 (by rw [(ZcV (.inr (by rw [← h20];exact f33))).2.1];rfl)
   ·have f36:¬ (((tL l h:Nat):Int)=0):=Zam e5
    exfalso
    exact f36 (by rw [(ZcV (.inr (by rw [← h20];exact f33))).1];rfl)
  ·have f33:¬ (q20< h):=fun hh=>of_decide_eq_false e4 ((ZaR h31).2 hh)
   have hok:¬ (l< -fltQ mxB∨fltQ mxB< h):=by rintro(g|g);exact f27 (by rw [h24,h20];exact g);exact f33 (by rw [h20];exact g)
   obtain⟨e1,e2,e3⟩:=t_ok hok
   have hLo:=ZlL hle hok
   have hHi:=ZlR hle hok
   rw [← e1] at hLo
   rw [← e2] at hHi
   unfold LoF at hLo
   unfold HiF at hHi
   refine fork (fun e7=> ?_) (fun e7=> ?_)
   ·have f46:(tE l h)≠0:=ZlW e7
    exfalso
    exact f46 e3
   ·have f46:¬ ((tE l h)≠0):=fun hh=>hh (ZlX e7)
    refine fork (fun e8=> ?_) (fun e8=> ?_)
    ·have f50:((tL l h:Nat):Int)=9223372036854775808:=Zal e8
     exfalso
     rcases hLo with ⟨_,e,b,_⟩|⟨_,b,_⟩<;>omega
    ·have f50:¬ (((tL l h:Nat):Int)=9223372036854775808):=Zam e8
     refine fork (fun e9=> ?_) (fun e9=> ?_)
     ·have f54:((tH l h:Nat):Int)=9223372036854775808:=Zal e9
      exfalso
      rcases hHi with ⟨e,b,_⟩|⟨b1,b2,_⟩|⟨e,_⟩<;>omega
     ·have f54:¬ (((tH l h:Nat):Int)=9223372036854775808):=Zam e9
      refine Zay (tL l h) 52 4503599627370496 rfl rfl (by decide) (by decide) ?_
      refine ZcH ((tL l h / 4503599627370496)) 11 2048 rfl rfl rfl (by omega) (by decide) ?_
      refine fork (fun e10=> ?_) (fun e10=> ?_)
      ·have f60:(((tL l h / 4503599627370496) % 2048:Nat):Int)=2047:=Zal e10
       exfalso
       rcases hLo with ⟨_,e,b,_⟩|⟨_,b,_⟩<;>omega
      ·have f60:¬ ((((tL l h / 4503599627370496) % 2048:Nat):Int)=2047):=Zam e10
       refine Zay (tH l h) 52 4503599627370496 rfl rfl (by decide) (by decide) ?_
       refine ZcH ((tH l h / 4503599627370496)) 11 2048 rfl rfl rfl (by omega) (by decide) ?_
       refine⟨fun e11=> ?_,fun e11=> ?_⟩
       ·have f65:(((tH l h / 4503599627370496) % 2048:Nat):Int)=2047:=Zal e11
        exfalso
        rcases hHi with ⟨e,b,_⟩|⟨b1,b2,_⟩|⟨e,_⟩<;>omega
       ·have f65:¬ ((((tH l h / 4503599627370496) % 2048:Nat):Int)=2047):=Zam e11
        refine⟨[(3,.val (.one (.ptr 3 0))),(4,.val (.one (.d (.v (.int .u64 (((tL l h:Nat):Int))))))),(5,.val (.one (.d (.v (.int .u64 (((tH l h:Nat):Int))))))),(8,.val (.one (.ref [D.v (.func (.func 23) #[] #[])])))], [(3,.var 55 [.d (.v (.bool (cn l).s)),.d (.v (.string (cn l).a)),.d (.v (.string (cn l).d)),.d (.v (.bool (cn h).s)),.d (.v (.string (cn h).a)),.d (.v (.string (cn h).d))])],?_,?_⟩
        ·constructor<;>(repeat' (first|exact rfl|exact True.intro|exact⟨_,_,rfl⟩|exact(by decide)|apply And.intro))
        refine⟨fun e12=> ?_,fun e12=> ?_⟩
        ·have f68:((tH l h:Nat):Int)=0:=Zal e12
         rcases hLo with ⟨gl,eL,bL,l1,l2⟩|⟨eL,bL,l1,l2⟩
         ·rcases hHi with ⟨eH,bH,u1,u2⟩|⟨eH,bH,u1,u2⟩|⟨eH,u1,u2⟩
          ·exfalso
           omega
          ·exfalso
           omega
          ·refine ZaI (ovB (-l)) (tL l h) rfl eL (by omega) fun q70 h70 z70=> ?_
           simp only [cn_z] at z70
           refine ZM (x:=cn q70) (y:=cn l) (by simp only [cn_z];omega) (by simp only [cn_z];omega) fun n73 h73=> ?_
           simp only [cn_q] at h73
           refine fork (fun e13=> ?_) (fun e13=> ?_)
           ·have f75:q70≤l:=(ZbN h73).1 (of_decide_eq_true e13)
            refine Zbo (tL l h) rfl (by unfold abOk;omega) fun q78 h78 z78=> ?_
            simp only [cn_z] at z78
            refine ZM (x:=cn q78) (y:=cn l) (by simp only [cn_z];omega) (by simp only [cn_z];omega) fun n81 h81=> ?_
            simp only [cn_q] at h81
            refine fork (fun e14=> ?_) (fun e14=> ?_)
            ·have f84:l< q78:=(ZaR h81).1 (of_decide_eq_true e14)
             refine ZaJ (tH l h) rfl (by omega) fun q86 h86 z86=> ?_
             simp only [cn_z] at z86
             refine ZM (x:=cn q86) (y:=cn h) (by simp only [cn_z];omega) (by simp only [cn_z];omega) fun n89 h89=> ?_
             simp only [cn_q] at h89
             refine fork (fun e15=> ?_) (fun e15=> ?_)
             ·have f92:h≤q86:=(Zb7 h89).1 (of_decide_eq_true e15)
              refine Zgd fun q95 h95 z95=> ?_
              simp only [cn_z] at z95
              refine ZM (x:=cn q95) (y:=cn h) (by simp only [cn_z];omega) (by simp only [cn_z];omega) fun n98 h98=> ?_
              simp only [cn_q] at h98
              refine⟨by kernel_rfl,?_⟩
              refine Eq.trans (b:=bool (decide (n98< 0))) ?_ rfl
              rw [decide_eq_true ((ZbM h98).2 (by rw [h95];exact u2))]
             ·have f92:¬ (h≤q86):=fun hh=>of_decide_eq_false e15 ((Zb7 h89).2 hh)
              exfalso
              exact f92 (by rw [h86,eH];exact u1)
            ·have f84:¬ (l< q78):=fun hh=>of_decide_eq_false e14 ((ZaR h81).2 hh)
             exfalso
             exact f84 (by rw [h78];exact l2)
           ·have f75:¬ (q70≤l):=fun hh=>of_decide_eq_false e13 ((ZbN h73).2 hh)
            exfalso
            exact f75 (by rw [h70];exact l1)
         ·rcases hHi with ⟨eH,bH,u1,u2⟩|⟨eH,bH,u1,u2⟩|⟨eH,u1,u2⟩
          ·exfalso
           omega
          ·exfalso
           omega
          ·refine ZaJ (tL l h) rfl (by omega) fun q70 h70 z70=> ?_
           simp only [cn_z] at z70
           refine ZM (x:=cn q70) (y:=cn l) (by simp only [cn_z];omega) (by simp only [cn_z];omega) fun n73 h73=> ?_
           simp only [cn_q] at h73
           refine fork (fun e16=> ?_) (fun e16=> ?_)
           ·have f75:q70≤l:=(ZbN h73).1 (of_decide_eq_true e16)
            refine Zbo (tL l h) rfl (by unfold abOk;omega) fun q78 h78 z78=> ?_
            simp only [cn_z] at z78
            refine ZM (x:=cn q78) (y:=cn l) (by simp only [cn_z];omega) (by simp only [cn_z];omega) fun n81 h81=> ?_
            simp only [cn_q] at h81
            refine fork (fun e17=> ?_) (fun e17=> ?_)
            ·have f84:l< q78:=(ZaR h81).1 (of_decide_eq_true e17)
             refine ZaJ (tH l h) rfl (by omega) fun q86 h86 z86=> ?_
             simp only [cn_z] at z86
             refine ZM (x:=cn q86) (y:=cn h) (by simp only [cn_z];omega) (by simp only [cn_z];omega) fun n89 h89=> ?_
             simp only [cn_q] at h89
             refine fork (fun e18=> ?_) (fun e18=> ?_)
             ·have f92:h≤q86:=(Zb7 h89).1 (of_decide_eq_true e18)
              refine Zgd fun q95 h95 z95=> ?_
              simp only [cn_z] at z95
              refine ZM (x:=cn q95) (y:=cn h) (by simp only [cn_z];omega) (by simp only [cn_z];omega) fun n98 h98=> ?_
              simp only [cn_q] at h98
              refine⟨by kernel_rfl,?_⟩
              refine Eq.trans (b:=bool (decide (n98< 0))) ?_ rfl
              rw [decide_eq_true ((ZbM h98).2 (by rw [h95];exact u2))]
             ·have f92:¬ (h≤q86):=fun hh=>of_decide_eq_false e18 ((Zb7 h89).2 hh)
              exfalso
              exact f92 (by rw [h86,eH];exact u1)
            ·have f84:¬ (l< q78):=fun hh=>of_decide_eq_false e17 ((ZaR h81).2 hh)
             exfalso
             exact f84 (by rw [h78];exact l2)
           ·have f75:¬ (q70≤l):=fun hh=>of_decide_eq_false e16 ((ZbN h73).2 hh)
            exfalso
            exact f75 (by rw [h70];exact l1)
        ·have f68:¬ (((tH l h:Nat):Int)=0):=Zam e12
         rcases hLo with ⟨gl,eL,bL,l1,l2⟩|⟨eL,bL,l1,l2⟩
         ·rcases hHi with ⟨eH,bH,u1,u2⟩|⟨eH,bH,u1,u2⟩|⟨eH,u1,u2⟩
          ·refine ZaI (ovB (-l)) (tL l h) rfl eL (by omega) fun q70 h70 z70=> ?_
           simp only [cn_z] at z70
           refine ZM (x:=cn q70) (y:=cn l) (by simp only [cn_z];omega) (by simp only [cn_z];omega) fun n73 h73=> ?_
           simp only [cn_q] at h73
           refine fork (fun e19=> ?_) (fun e19=> ?_)
           ·have f75:q70≤l:=(ZbN h73).1 (of_decide_eq_true e19)
            refine Zbo (tL l h) rfl (by unfold abOk;omega) fun q78 h78 z78=> ?_
            simp only [cn_z] at z78
            refine ZM (x:=cn q78) (y:=cn l) (by simp only [cn_z];omega) (by simp only [cn_z];omega) fun n81 h81=> ?_
            simp only [cn_q] at h81
            refine fork (fun e20=> ?_) (fun e20=> ?_)
            ·have f84:l< q78:=(ZaR h81).1 (of_decide_eq_true e20)
             refine ZaI (unB (-h)) (tH l h) rfl eH (by omega) fun q86 h86 z86=> ?_
             simp only [cn_z] at z86
             refine ZM (x:=cn q86) (y:=cn h) (by simp only [cn_z];omega) (by simp only [cn_z];omega) fun n89 h89=> ?_
             simp only [cn_q] at h89
             refine fork (fun e21=> ?_) (fun e21=> ?_)
             ·have f92:h≤q86:=(Zb7 h89).1 (of_decide_eq_true e21)
              refine ZdS (tH l h) (unB (-h)) rfl (by unfold flipT;omega) (by unfold abOk;omega) fun q95 h95 z95=> ?_
              simp only [cn_z] at z95
              refine ZM (x:=cn q95) (y:=cn h) (by simp only [cn_z];omega) (by simp only [cn_z];omega) fun n98 h98=> ?_
              simp only [cn_q] at h98
              refine⟨by kernel_rfl,?_⟩
              refine Eq.trans (b:=bool (decide (n98< 0))) ?_ rfl
              rw [decide_eq_true ((ZbM h98).2 (by rw [h95];exact u2))]
             ·have f92:¬ (h≤q86):=fun hh=>of_decide_eq_false e21 ((Zb7 h89).2 hh)
              exfalso
              exact f92 (by rw [h86];exact u1)
            ·have f84:¬ (l< q78):=fun hh=>of_decide_eq_false e20 ((ZaR h81).2 hh)
             exfalso
             exact f84 (by rw [h78];exact l2)
           ·have f75:¬ (q70≤l):=fun hh=>of_decide_eq_false e19 ((ZbN h73).2 hh)
            exfalso
            exact f75 (by rw [h70];exact l1)
          ·refine ZaI (ovB (-l)) (tL l h) rfl eL (by omega) fun q70 h70 z70=> ?_
           simp only [cn_z] at z70
           refine ZM (x:=cn q70) (y:=cn l) (by simp only [cn_z];omega) (by simp only [cn_z];omega) fun n73 h73=> ?_
           simp only [cn_q] at h73
           refine fork (fun e22=> ?_) (fun e22=> ?_)
           ·have f75:q70≤l:=(ZbN h73).1 (of_decide_eq_true e22)
            refine Zbo (tL l h) rfl (by unfold abOk;omega) fun q78 h78 z78=> ?_
            simp only [cn_z] at z78
            refine ZM (x:=cn q78) (y:=cn l) (by simp only [cn_z];omega) (by simp only [cn_z];omega) fun n81 h81=> ?_
            simp only [cn_q] at h81
            refine fork (fun e23=> ?_) (fun e23=> ?_)
            ·have f84:l< q78:=(ZaR h81).1 (of_decide_eq_true e23)
             refine ZaJ (tH l h) rfl (by omega) fun q86 h86 z86=> ?_
             simp only [cn_z] at z86
             refine ZM (x:=cn q86) (y:=cn h) (by simp only [cn_z];omega) (by simp only [cn_z];omega) fun n89 h89=> ?_
             simp only [cn_q] at h89
             refine fork (fun e24=> ?_) (fun e24=> ?_)
             ·have f92:h≤q86:=(Zb7 h89).1 (of_decide_eq_true e24)
              refine ZdS (tH l h) (tH l h+9223372036854775808) rfl (by unfold flipT;omega) (by unfold abOk;omega) fun q95 h95 z95=> ?_
              simp only [cn_z] at z95
              refine ZM (x:=cn q95) (y:=cn h) (by simp only [cn_z];omega) (by simp only [cn_z];omega) fun n98 h98=> ?_
              simp only [cn_q] at h98
              refine⟨by kernel_rfl,?_⟩
              refine Eq.trans (b:=bool (decide (n98< 0))) ?_ rfl
              rw [decide_eq_true ((ZbM h98).2 (by rw [h95];exact u2))]
             ·have f92:¬ (h≤q86):=fun hh=>of_decide_eq_false e24 ((Zb7 h89).2 hh)
              exfalso
              exact f92 (by rw [h86];exact u1)
            ·have f84:¬ (l< q78):=fun hh=>of_decide_eq_false e23 ((ZaR h81).2 hh)
             exfalso
             exact f84 (by rw [h78];exact l2)
           ·have f75:¬ (q70≤l):=fun hh=>of_decide_eq_false e22 ((ZbN h73).2 hh)
            exfalso
            exact f75 (by rw [h70];exact l1)
          ·exfalso
           omega
         ·rcases hHi with ⟨eH,bH,u1,u2⟩|⟨eH,bH,u1,u2⟩|⟨eH,u1,u2⟩
          ·refine ZaJ (tL l h) rfl (by omega) fun q70 h70 z70=> ?_
           simp only [cn_z] at z70
           refine ZM (x:=cn q70) (y:=cn l) (by simp only [cn_z];omega) (by simp only [cn_z];omega) fun n73 h73=> ?_
           simp only [cn_q] at h73
           refine fork (fun e25=> ?_) (fun e25=> ?_)
           ·have f75:q70≤l:=(ZbN h73).1 (of_decide_eq_true e25)
            refine Zbo (tL l h) rfl (by unfold abOk;omega) fun q78 h78 z78=> ?_
            simp only [cn_z] at z78
            refine ZM (x:=cn q78) (y:=cn l) (by simp only [cn_z];omega) (by simp only [cn_z];omega) fun n81 h81=> ?_
            simp only [cn_q] at h81
            refine fork (fun e26=> ?_) (fun e26=> ?_)
            ·have f84:l< q78:=(ZaR h81).1 (of_decide_eq_true e26)
             refine ZaI (unB (-h)) (tH l h) rfl eH (by omega) fun q86 h86 z86=> ?_
             simp only [cn_z] at z86
             refine ZM (x:=cn q86) (y:=cn h) (by simp only [cn_z];omega) (by simp only [cn_z];omega) fun n89 h89=> ?_
             simp only [cn_q] at h89
             refine fork (fun e27=> ?_) (fun e27=> ?_)
             ·have f92:h≤q86:=(Zb7 h89).1 (of_decide_eq_true e27)
              refine ZdS (tH l h) (unB (-h)) rfl (by unfold flipT;omega) (by unfold abOk;omega) fun q95 h95 z95=> ?_
              simp only [cn_z] at z95
              refine ZM (x:=cn q95) (y:=cn h) (by simp only [cn_z];omega) (by simp only [cn_z];omega) fun n98 h98=> ?_
              simp only [cn_q] at h98
              refine⟨by kernel_rfl,?_⟩
              refine Eq.trans (b:=bool (decide (n98< 0))) ?_ rfl
              rw [decide_eq_true ((ZbM h98).2 (by rw [h95];exact u2))]
             ·have f92:¬ (h≤q86):=fun hh=>of_decide_eq_false e27 ((Zb7 h89).2 hh)
              exfalso
              exact f92 (by rw [h86];exact u1)
            ·have f84:¬ (l< q78):=fun hh=>of_decide_eq_false e26 ((ZaR h81).2 hh)
             exfalso
             exact f84 (by rw [h78];exact l2)
           ·have f75:¬ (q70≤l):=fun hh=>of_decide_eq_false e25 ((ZbN h73).2 hh)
            exfalso
            exact f75 (by rw [h70];exact l1)
          ·refine ZaJ (tL l h) rfl (by omega) fun q70 h70 z70=> ?_
           simp only [cn_z] at z70
           refine ZM (x:=cn q70) (y:=cn l) (by simp only [cn_z];omega) (by simp only [cn_z];omega) fun n73 h73=> ?_
           simp only [cn_q] at h73
           refine fork (fun e28=> ?_) (fun e28=> ?_)
           ·have f75:q70≤l:=(ZbN h73).1 (of_decide_eq_true e28)
            refine Zbo (tL l h) rfl (by unfold abOk;omega) fun q78 h78 z78=> ?_
            simp only [cn_z] at z78
            refine ZM (x:=cn q78) (y:=cn l) (by simp only [cn_z];omega) (by simp only [cn_z];omega) fun n81 h81=> ?_
            simp only [cn_q] at h81
            refine fork (fun e29=> ?_) (fun e29=> ?_)
            ·have f84:l< q78:=(ZaR h81).1 (of_decide_eq_true e29)
             refine ZaJ (tH l h) rfl (by omega) fun q86 h86 z86=> ?_
             simp only [cn_z] at z86
             refine ZM (x:=cn q86) (y:=cn h) (by simp only [cn_z];omega) (by simp only [cn_z];omega) fun n89 h89=> ?_
             simp only [cn_q] at h89
             refine fork (fun e30=> ?_) (fun e30=> ?_)
             ·have f92:h≤q86:=(Zb7 h89).1 (of_decide_eq_true e30)
              refine ZdS (tH l h) (tH l h+9223372036854775808) rfl (by unfold flipT;omega) (by unfold abOk;omega) fun q95 h95 z95=> ?_
              simp only [cn_z] at z95
              refine ZM (x:=cn q95) (y:=cn h) (by simp only [cn_z];omega) (by simp only [cn_z];omega) fun n98 h98=> ?_
              simp only [cn_q] at h98
              refine⟨by kernel_rfl,?_⟩
              refine Eq.trans (b:=bool (decide (n98< 0))) ?_ rfl
              rw [decide_eq_true ((ZbM h98).2 (by rw [h95];exact u2))]
             ·have f92:¬ (h≤q86):=fun hh=>of_decide_eq_false e30 ((Zb7 h89).2 hh)
              exfalso
              exact f92 (by rw [h86];exact u1)
            ·have f84:¬ (l< q78):=fun hh=>of_decide_eq_false e29 ((ZaR h81).2 hh)
             exfalso
             exact f84 (by rw [h78];exact l2)
           ·have f75:¬ (q70≤l):=fun hh=>of_decide_eq_false e28 ((ZbN h73).2 hh)
            exfalso
            exact f75 (by rw [h70];exact l1)
          ·exfalso
           omega
theorem borderTo_walk (s00:Bool) (a00 d00:ByteArray) (s01:Bool) (a01 d01:ByteArray) (N:Nat) (w:World) (_:1≤N) (hN:N≤1048576)
  (k1:a00.size≤N) (k2:d00.size≤N) (k3:a01.size≤N) (k4:d01.size≤N) (hT:Tab w):
  Calls Tryz.prog 5 #[.agg #[.bool s00,.string a00,.string d00,.bool s01,.string a01,.string d01]] w fun e w'=>e= .returned (.bool true)∧Below w.heap.size w w':=
 have zz:∀ (s:Bool) (a d:ByteArray),a.size≤N→d.size≤N→RV.z ⟨s,a,d⟩≤1048576:=fun s a d h1 h2=>by unfold RV.z;exact Nat.le_trans (Nat.max_le.2 ⟨h1,h2⟩) hN
 ZdY (ZdZ ⟨s00,a00,d00⟩ ⟨s01,a01,d01⟩ (zz _ _ _ k1 k2) (zz _ _ _ k3 k4)) rfl hT (Zh3 (vs:= [pair ⟨s00,a00,d00⟩ ⟨s01,a01,d01⟩]) rfl)
end
end Go.Proofs.YtbgokkfhohodgaaGreatDoor.eng
