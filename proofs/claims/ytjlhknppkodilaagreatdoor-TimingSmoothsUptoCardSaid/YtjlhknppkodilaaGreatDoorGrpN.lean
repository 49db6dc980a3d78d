/- Joined by wip/bundle.py: XEngN3 XEngN3b XSub32 XEngN3c XEngN3d XEngN3e XEngN3f XEngN3g XEngN3h XEngN3i. -/
import Derived.Test.YtjlhknppkodilaaGreatDoorGrpS
import Derived.Test.YtjlhknppkodilaaGreatDoorGrpA
import Derived.Test.YtjlhknppkodilaaGreatDoorGrpC
import Derived.Test.YtjlhknppkodilaaGreatDoorGrpD
set_option maxRecDepth 100000
namespace Go.Proofs.YtjlhknppkodilaaGreatDoor.eng
open Go.RowKit num mem seg q held ratA ratB ratC ratD ratE vars ratF
def W (l:List Nat):List (List D):=l.map fun (x:Nat)=> [D.v (.int .u32 (x:Int))]
def n3 (n:Nat):AV:= .val (.one (.d (.list (W (w32 n)))))
def u32v (n:Int):AV:= .val (.one (.d (.v (.int .u32 n))))
def u64v (n:Int):AV:= .val (.one (.d (.v (.int .u64 n))))
theorem ZjA (l:List Nat):(W l).length=l.length:=by simp [W]
theorem W_at {l:List Nat} {i x:Nat} (h:l[i]? =some x):(W l)[i]? =some [D.v (.int .u32 (x:Int))]:=by simp [W,h]
theorem Zd6 (l:List Nat) (i x:Nat):(W l).set i [D.v (.int .u32 (x:Int))]=W (l.set i x):=by simp [W,List.map_set]
theorem Zfr (n:Nat):List.replicate n [D.v (.int .u32 0)]=W (List.replicate n 0):=by simp [W]
theorem ZpV (l:List Nat) (k:Nat):(W l).take k=W (l.take k):=by simp [W,List.map_take]
theorem ZpW (l:List Nat):∀ r,r∈W l→r.length=1:=by
 intro r hr
 obtain⟨x,_,rfl⟩:=List.mem_map.1 hr
 rfl
theorem Z6 {n i:Nat} (h:i< wlen 4 n):(w32 n)[i]? =some (n / 4294967296 ^ i % 4294967296):=by
 unfold w32 dg
 rw [List.getElem?_map,List.getElem?_range h];rfl
theorem Zaj (n:Nat):(W (w32 n)).length=wlen 4 n:=by rw [ZjA,Zk]
theorem ZeH {l:List Nat} (hl:∀ d,d∈l→d< 4294967296) (ht:∀ d t,l=t++ [d]→d≠0):w32 (lv 4294967296 l)=l:=by
 have hlt:=ZcR (B:=4294967296) (l:=l) hl
 have h1:wlen 4 (lv 4294967296 l)≤l.length:=(Zam (by omega)).2 (by simpa using hlt)
 have h2:l.length≤wlen 4 (lv 4294967296 l):=by
  rcases List.eq_nil_or_concat l with rfl|⟨t,d,e⟩
  ·exact Nat.zero_le _
  ·have e:l=t++ [d]:=by simpa using e
   have hd:=ht d t e
   apply Nat.le_of_not_lt
   intro hcon
   have h3:wlen 4 (lv 4294967296 l)≤t.length:=by rw [e] at hcon;simp at hcon;rw [e];omega
   have h4:=(Zam (by omega)).1 h3
   rw [e,Zbi] at h4
   have:4294967296 ^ t.length*1≤4294967296 ^ t.length*d:=Nat.mul_le_mul_left _ (by omega)
   simp only [show (256:Nat) ^ 4=4294967296 from rfl] at h4
   omega
 have h3:wlen 4 (lv 4294967296 l)=l.length:=Nat.le_antisymm h1 h2
 unfold w32
 rw [h3]
 exact ZpI (by omega) hl
theorem wu64 {m:Int} (h0:0≤m) (h1:m< 18446744073709551616):IntKind.u64.wrap m=m:=by
 unfold IntKind.wrap
 simp [IntKind.signed,IntKind.bits]
 omega
theorem wu32 {m:Int} (h0:0≤m) (h1:m< 4294967296):IntKind.u32.wrap m=m:=by
 unfold IntKind.wrap
 simp [IntKind.signed,IntKind.bits]
 omega
theorem Zmm (n:Nat):IntKind.u32.wrap (n:Int)=((n % 4294967296:Nat):Int):=by
 unfold IntKind.wrap
 simp [IntKind.signed,IntKind.bits]
section
variable {K : AV → Prop} {a b n m : Nat}
theorem Zeq {src dst:TypeId} {x:Int} {k':IntKind} (hs:(Tryz.prog.underlying src).isSome=true) (hd:Tryz.prog.underlying dst=some (.int k')) (y:Int) (hy:y=k'.wrap x) (k:K (one (.int k' y))):
  ∃ r,(∃ k',(Tryz.prog.underlying src).isSome=true∧Tryz.prog.underlying dst=some (.int k')∧r=one (.int k' (k'.wrap x)))∧K r:=⟨_,⟨k',hs,hd,rfl⟩,by subst hy;exact k⟩
theorem u_u8:Tryz.prog.underlying 5=some (.int .u8):=by kernel_rfl
theorem Zn5:Tryz.prog.underlying 103=some (.int .u32):=by kernel_rfl
theorem Zn4:Tryz.prog.underlying 100=some (.int .u64):=by kernel_rfl
theorem ZpX:Tryz.prog.underlying 3=some (.int .i64):=by kernel_rfl
theorem s_u8:(Tryz.prog.underlying 5).isSome=true:=by rw [u_u8];rfl
theorem Zo9:(Tryz.prog.underlying 103).isSome=true:=by rw [Zn5];rfl
theorem Zp1:(Tryz.prog.underlying 100).isSome=true:=by rw [Zn4];rfl
theorem Zpa:(Tryz.prog.underlying 3).isSome=true:=by rw [ZpX];rfl
theorem Zge {x:Int} (n:Nat) (hx:x=n) (hn:n< 18446744073709551616) (k:K (u64v (n:Int))):
  ∃ r,(∃ k',(Tryz.prog.underlying 103).isSome=true∧Tryz.prog.underlying 100=some (.int k')∧r=one (.int k' (k'.wrap x)))∧K r:=
 Zeq Zo9 Zn4 (n:Int) (by rw [hx,wu64 (by omega) (by omega)]) k
theorem Zcv {x:Int} (n:Nat) (hx:x=n) (k:K (u32v ((n % 4294967296:Nat):Int))):
  ∃ r,(∃ k',(Tryz.prog.underlying 100).isSome=true∧Tryz.prog.underlying 103=some (.int k')∧r=one (.int k' (k'.wrap x)))∧K r:=
 Zeq Zp1 Zn5 _ (by rw [hx,Zmm]) k
theorem Zki (T:TypeId) (ox oy:Operand) (n:Nat) (w:World):(do eqGuard .shr T ox oy (.int .u64 (n:Int)) (.int .u64 32);binOp .shr T (.int .u64 (n:Int)) (.int .u64 32):Sem Value).run Tryz.prog w= .ok (.int .u64 ((n / 4294967296:Nat):Int)) w:=by
 simp [go_sem]
theorem Za1 {T:TypeId} {ox oy:Operand} {x:Int} (n:Nat) (hx:x=n) (k:K (u64v ((n / 4294967296:Nat):Int))):AskB .shr T ox oy (.int .u64 x) (.int .u64 32) K:=by
 subst hx
 exact⟨_,⟨_,rfl,rfl,Zki T ox oy n⟩,k⟩
end
theorem ZjR (l:List Nat) (hl:∀ d,d∈l→d< 4294967296) (hn:l.length≤1099511627776):Spec Tryz.prog Tab 76 [.val (.one (.d (.list (W l))))] (n3 (lv 4294967296 l)):=by
 refine Zf Tryz.func76 rfl rfl Tryz.ntmps76 rfl (by kernel_rfl) rfl rfl ?_
 refine⟨List Nat,fun s=> [(0,.val (.one (.d (.list (W s)))))],fun _=> [],fun s=>lv 4294967296 s=lv 4294967296 l∧(∀ d,d∈s→d< 4294967296)∧s.length≤l.length,fun s=>s.length,l,?_,⟨rfl,hl,Nat.le_refl _⟩,fun s hs=> ?_⟩
 ·constructor<;>(repeat' (first|exact rfl|exact True.intro|apply And.intro))
 obtain⟨h1,h2,h3⟩:=hs
 refine fork (fun e=> ?_) (fun e=> ?_)
 ·have e':=of_decide_eq_true e
  rw [ZjA] at e'
  obtain⟨t,d,rfl⟩:∃ t d,s=t++ [d]:=by
   rcases List.eq_nil_or_concat s with rfl|⟨t,d,h⟩
   ·simp at e'
   ·exact⟨t,d,by simpa using h⟩
  have hlen:((W (t++ [d])).length:Int)=(t.length:Int)+1:=by rw [ZjA];simp
  have hw:IntKind.i64.wrap (((W (t++ [d])).length:Int) - 1)=(t.length:Int):=by rw [hlen,wrap64 _ (by omega) (by simp at h3;omega)];omega
  refine k_at [D.v (.int .u32 (d:Int))] (by rw [hw];omega) (by rw [hw];exact W_at (by simp)) rfl ?_
  refine⟨fun e2=> ?_,fun e2=> ?_⟩
  ·have hd0:d=0:=by have:=of_decide_eq_true e2;simp at e2;omega
   refine⟨_,⟨by rw [hw];omega,by rw [hw,hlen];omega,ZpW _,rfl⟩,?_⟩
   refine⟨t,⟨by rw [← h1,Zbi,hd0];simp,fun x hx=>h2 x (by simp [hx]),by simp at h3;omega⟩,by simp,?_⟩
   constructor<;>(repeat' (first|exact rfl|exact True.intro|apply And.intro))
   rw [hw,Int.toNat_natCast,ZpV,List.take_left]
   exact rfl
  ·refine Eq.trans (b:= .val (.one (.d (.list (W (t++ [d])))))) ?_ rfl
   have hd0:d≠0:=by intro h;subst h;simp at e2
   rw [n3,← h1,ZeH h2 (fun x t' h=>by
    have:=List.append_inj' h rfl
    simp at this
    rw [← this.2];exact hd0)]
 ·refine⟨fun e=>by simp at e,fun _=> ?_⟩
  have e':=of_decide_eq_false e
  rw [ZjA] at e'
  have hs0:s= []:=List.eq_nil_of_length_eq_zero (by omega)
  subst hs0
  refine Eq.trans (b:= .val (.one (.d (.list (W []))))) ?_ rfl
  rw [n3,← h1,ZeH h2 (fun x t' h=>by simp at h)]
theorem Zc4 {K:AV→Prop} (l:List Nat) {vv:List (List D)} (hv:vv=W l) (hl:∀ d,d∈l→d< 4294967296) (hn:l.length≤1099511627776) (k:K (n3 (lv 4294967296 l))):Ask 76 [.val (.one (.d (.list vv)))] K:=by
 subst hv;exact use (ZjR l hl hn) rfl k
end Go.Proofs.YtjlhknppkodilaaGreatDoor.eng
namespace Go.Proofs.YtjlhknppkodilaaGreatDoor.eng
open Go.RowKit num mem seg q held ratA ratB ratC ratD ratE vars ratF
theorem wlen_mono {a b:Nat} (h:a≤b):wlen 4 a≤wlen 4 b:=(Zam (by omega)).2 (Nat.lt_of_le_of_lt h (Zb4 (by omega)))
theorem lt_B (n:Nat):n< 4294967296 ^ wlen 4 n:=by have:=@Zb4 4 n (by omega);simpa using this
theorem ZlL (n:Nat):n / 4294967296 ^ wlen 4 n=0:=Nat.div_eq_of_lt (lt_B n)
theorem ZcB (a i:Nat):a / 4294967296 ^ i=a / 4294967296 ^ (i+1)*4294967296+a / 4294967296 ^ i % 4294967296:=by
 rw [Nat.pow_succ,← Nat.div_div_eq_div_mul]
 have:=Nat.div_add_mod (a / 4294967296 ^ i) 4294967296
 omega
theorem Zqa {a b i:Nat} (h:a / 4294967296 ^ (i+1)=b / 4294967296 ^ (i+1)) (hd:a / 4294967296 ^ i % 4294967296=b / 4294967296 ^ i % 4294967296):a / 4294967296 ^ i=b / 4294967296 ^ i:=by
 rw [ZcB a i,ZcB b i,h,hd]
theorem ZpE {a b i:Nat} (h:a / 4294967296 ^ (i+1)=b / 4294967296 ^ (i+1)) (hd:a / 4294967296 ^ i % 4294967296< b / 4294967296 ^ i % 4294967296):a< b:=by
 have h1:a / 4294967296 ^ i< b / 4294967296 ^ i:=by rw [ZcB a i,ZcB b i,h];omega
 apply Nat.lt_of_not_le
 intro hc
 have:=Nat.div_le_div_right (c:=4294967296 ^ i) hc
 omega
def cmp3 (a b:Nat):Int:=if wlen 4 a=wlen 4 b then (if a< b then -1 else if b< a then 1 else 0) else (wlen 4 a:Int) - (wlen 4 b:Int)
theorem ZlW (a b:Nat):0≤cmp3 a b↔b≤a:=by
 unfold cmp3
 split
 ·split
  ·omega
  ·split<;>omega
 ·rename_i h
  rcases Nat.lt_or_ge a b with h1|h1
  ·have:=wlen_mono (Nat.le_of_lt h1);omega
  ·have:=wlen_mono h1;omega
theorem ZdU (a b:Nat) (ha:wlen 4 a≤1099511627776) (hb:wlen 4 b≤1099511627776):Spec Tryz.prog Tab 55 [n3 a,n3 b] (int (cmp3 a b)):=by
 have la:=Zaj a
 have lb:=Zaj b
 refine Zf Tryz.func55 rfl rfl Tryz.ntmps55 rfl (by kernel_rfl) rfl rfl ?_
 refine⟨fun e=> ?_,fun e=> ?_⟩
 ·refine Eq.trans (b:=int (IntKind.i64.wrap (((W (w32 a)).length:Int) - ((W (w32 b)).length:Int)))) ?_ rfl
  have hne:wlen 4 a≠wlen 4 b:=by intro h;rw [la,lb,h] at e;simp at e
  rw [la,lb,wrap64 _ (by omega) (by omega),cmp3,if_neg hne]
 have heq:wlen 4 a=wlen 4 b:=by
  rw [la,lb] at e
  have:((wlen 4 a:Int) !=(wlen 4 b:Int))=false:=e
  simp at this;omega
 refine⟨Nat,fun k=> [(0,n3 a),(1,n3 b),(5,int ((k:Int) - 1))],fun _=> [],fun k=>k≤wlen 4 a∧a / 4294967296 ^ k=b / 4294967296 ^ k,fun k=>k,wlen 4 a,?_,⟨Nat.le_refl _,by rw [ZlL,heq,ZlL]⟩,fun k hs=> ?_⟩
 ·constructor<;>(repeat' (first|exact rfl|exact True.intro|apply And.intro))
  all_goals exact congrArg (fun n:Int=>D.v (.int .i64 n)) (by rw [la,wrap64 _ (by omega) (by omega)])
 obtain⟨hk,hq⟩:=hs
 refine⟨fun e=> ?_,fun e=> ?_⟩
 ·have e':=of_decide_eq_true e
  obtain⟨i,rfl⟩:∃ i,k=i+1:=⟨k - 1,by omega⟩
  have hi:(((i+1:Nat):Int) - 1).toNat=i:=by omega
  refine k_at [D.v (.int .u32 ((a / 4294967296 ^ i % 4294967296:Nat):Int))] (by omega) (by rw [hi];exact W_at (Z6 (by omega))) rfl ?_
  refine k_at [D.v (.int .u32 ((b / 4294967296 ^ i % 4294967296:Nat):Int))] (by omega) (by rw [hi];exact W_at (Z6 (by omega))) rfl ?_
  refine⟨by kernel_rfl,?_⟩
  refine⟨fun e2=> ?_,fun e2=> ?_⟩
  ·refine k_at [D.v (.int .u32 ((a / 4294967296 ^ i % 4294967296:Nat):Int))] (by omega) (by rw [hi];exact W_at (Z6 (by omega))) rfl ?_
   refine k_at [D.v (.int .u32 ((b / 4294967296 ^ i % 4294967296:Nat):Int))] (by omega) (by rw [hi];exact W_at (Z6 (by omega))) rfl ?_
   refine⟨by kernel_rfl,?_⟩
   have hne:a / 4294967296 ^ i % 4294967296≠b / 4294967296 ^ i % 4294967296:=by
    intro h;rw [h] at e2;simp at e2
   refine⟨fun e3=> ?_,fun e3=> ?_⟩
   ·refine Eq.trans (b:=int (-1)) ?_ rfl
    have h3:=of_decide_eq_true e3
    rw [cmp3,if_pos heq,if_pos (ZpE hq (by omega))]
   ·refine Eq.trans (b:=int 1) ?_ rfl
    have h3:=of_decide_eq_false e3
    have h4:=ZpE hq.symm (by omega)
    rw [cmp3,if_pos heq,if_neg (by omega),if_pos h4]
  ·have heq2:a / 4294967296 ^ i % 4294967296=b / 4294967296 ^ i % 4294967296:=by
    have:(((a / 4294967296 ^ i % 4294967296:Nat):Int) !=((b / 4294967296 ^ i % 4294967296:Nat):Int))=false:=e2
    simp only [bne_eq_false_iff_eq] at this
    omega
   refine⟨i,⟨by omega,Zqa hq heq2⟩,Nat.lt_succ_self i,?_⟩
   constructor<;>(repeat' (first|exact rfl|exact True.intro|apply And.intro))
   all_goals exact congrArg (fun n:Int=>D.v (.int .i64 n)) (by rw [wrap64 _ (by omega) (by omega)];omega)
 ·have e':=of_decide_eq_false e
  have hk0:k=0:=by omega
  subst hk0
  simp only [Nat.pow_zero,Nat.div_one] at hq
  refine Eq.trans (b:=int 0) ?_ rfl
  rw [cmp3,if_pos heq,hq];simp
theorem Zli {K:AV→Prop} {a b:Nat} (ha:wlen 4 a≤1099511627776) (hb:wlen 4 b≤1099511627776) (k:∀ v,(0≤v↔b≤a)→K (int v)):Ask 55 [n3 a,n3 b] K:=
 use (ZdU a b ha hb) rfl (k _ (ZlW a b))
end Go.Proofs.YtjlhknppkodilaaGreatDoor.eng
namespace Go.Proofs.YtjlhknppkodilaaGreatDoor.sub32
open Go.RowKit num mem
theorem Zn6 {m:Nat} (h:m< 4294967296):m / 2147483648=(m.testBit 31).toNat:=by
 rw [Nat.testBit_eq_decide_div_mod_eq]
 have h1:m / 2 ^ 31=m / 2147483648:=rfl
 rw [h1]
 have h2:m / 2147483648< 2:=by omega
 by_cases h3:m / 2147483648 % 2=1
 ·rw [decide_eq_true h3];show _=1;omega
 ·rw [decide_eq_false h3];show _=0;omega
theorem bit31 {m:Nat} (h:m< 4294967296):m.testBit 31=decide (2147483648≤m):=by
 rw [Nat.testBit_eq_decide_div_mod_eq,decide_eq_decide]
 have h1:m / 2 ^ 31=m / 2147483648:=rfl
 rw [h1];omega
def dif (x y b:Nat):Nat:=(x+4294967296 - y - b) % 4294967296
theorem Zir (x y b:Nat):dif x y b< 4294967296:=Nat.mod_lt _ (by omega)
theorem borrow (x y b:Nat) (hx:x< 4294967296) (hy:y< 4294967296) (hb:b≤1):
  (((4294967295 ^^^ x)&&&y)|||((4294967295 ^^^ (x ^^^ y))&&&dif x y b)) / 2147483648=if x< y+b then 1 else 0:=by
 have hd:=Zir x y b
 have h1:(4294967295 ^^^ x)&&&y< 2 ^ 32:=Nat.and_lt_two_pow _ (by omega)
 have h2:(4294967295 ^^^ (x ^^^ y))&&&dif x y b< 2 ^ 32:=Nat.and_lt_two_pow _ (by omega)
 rw [Zn6 (by have:=Nat.or_lt_two_pow h1 h2;omega)]
 have h3:(4294967295:Nat).testBit 31=true:=by decide
 simp only [Nat.testBit_or,Nat.testBit_and,Nat.testBit_xor,h3,bit31 hx,bit31 hy,bit31 hd]
 unfold dif
 by_cases c1:2147483648≤x<;>by_cases c2:2147483648≤y<;>by_cases c3:2147483648≤(x+4294967296 - y - b) % 4294967296<;>by_cases c4:x< y+b<;>simp [c1,c2,c3,c4]<;>omega
def bw (x y b:Nat):Nat:=if x< y+b then 1 else 0
theorem Zmn (x y b:Nat) (hx:x< 4294967296) (hy:y< 4294967296) (hb:b≤1):IntKind.u32.wrap (IntKind.u32.wrap ((x:Int) - (y:Int)) - (b:Int))=(dif x y b:Int):=by
 rw [IntKind.wrap_u32,IntKind.wrap_u32];unfold dif;omega
theorem Zmc (x y b:Nat) (w:World) (hx:x< 4294967296) (hy:y< 4294967296) (hb:b≤1):
  Calls Tryz.prog 78 #[.int .u32 x,.int .u32 y,.int .u32 b] w fun e w'=>e= .returned (.tuple #[.int .u32 (dif x y b:Int),.int .u32 (bw x y b:Int)])∧w=w':=by
 have hd:=Zir x y b
 have e1:=Zmn x y b hx hy hb
 have x1:4294967295 ^^^ x< 4294967296:=by have:=Nat.xor_lt_two_pow (n:=32) (x:=4294967295) (y:=x) (by omega) (by omega);omega
 have x2:x ^^^ y< 4294967296:=by have:=Nat.xor_lt_two_pow (n:=32) (x:=x) (y:=y) (by omega) (by omega);omega
 have x3:4294967295 ^^^ (x ^^^ y)< 4294967296:=by have:=Nat.xor_lt_two_pow (n:=32) (x:=4294967295) (y:=x ^^^ y) (by omega) (by omega);omega
 have x4:(4294967295 ^^^ x)&&&y< 4294967296:=by have:=Nat.and_lt_two_pow (n:=32) (4294967295 ^^^ x) (y:=y) (by omega);omega
 have x5:(4294967295 ^^^ (x ^^^ y))&&&dif x y b< 4294967296:=by have:=Nat.and_lt_two_pow (n:=32) (4294967295 ^^^ (x ^^^ y)) (y:=dif x y b) (by omega);omega
 have b1:=u32_xor_nat 4294967295 x (by omega) hx
 have b2:=u32_and_nat (4294967295 ^^^ x) y x1 hy
 have b3:=u32_xor_nat x y hx hy
 have b4:=u32_xor_nat 4294967295 (x ^^^ y) (by omega) x2
 have b5:=u32_and_nat (4294967295 ^^^ (x ^^^ y)) (dif x y b) x3 hd
 have b6:=u32_or_nat _ _ x4 x5
 have hbw:_=bw x y b:=borrow x y b hx hy hb
 go_enter Tryz.func78,Tryz.ntmps78
 go_wp2_with fail
 all_goals first
  |(rename_i h;exact absurd h (by decide))
  |(simp [bodyPost,results,Tryz.results78,go_sem]
    have e2:((x:Int) - (y:Int) - (b:Int)) % 4294967296=(dif x y b:Int):=by unfold dif;omega
    refine⟨e2,?_⟩
    rw [e2,show IntKind.u32.max=((4294967295:Nat):Int) from rfl,b1,b2,b4,b5,b6]
    rw [← hbw];rfl)
end Go.Proofs.YtjlhknppkodilaaGreatDoor.sub32
namespace Go.Proofs.YtjlhknppkodilaaGreatDoor.eng
open Go.RowKit num mem seg q held ratA ratB ratC ratD ratE vars ratF sub32
def rowN (Z:List Nat) (N:Nat):List (List D):=W (Z++List.replicate (N - Z.length) 0)
theorem ZeX (N:Nat):List.replicate N [D.v (.int .u32 0)]=rowN [] N:=by unfold rowN;rw [Zfr];rfl
theorem ZmD {Z:List Nat} {N:Nat} (h:Z.length≤N):(rowN Z N).length=N:=by unfold rowN;rw [ZjA,List.length_append,List.length_replicate];omega
theorem Z5 {Z:List Nat} {N:Nat} (h:Z.length< N):Z.length< (rowN Z N).length:=by rw [ZmD (Nat.le_of_lt h)];exact h
theorem ZaR {Z:List Nat} {N:Nat} (h:Z.length< N) (d:Nat):(rowN Z N).set Z.length [D.v (.int .u32 (d:Int))]=rowN (Z++ [d]) N:=by
 unfold rowN
 rw [Zd6,List.set_append_right _ _ (Nat.le_refl _),Nat.sub_self]
 have h2:N - Z.length=(N - (Z++ [d]).length)+1:=by simp;omega
 rw [h2,List.replicate_succ]
 simp
theorem ZeY {Z:List Nat} {N:Nat} (h:Z.length=N):rowN Z N=W Z:=by unfold rowN;rw [h,Nat.sub_self];simp
theorem ZJ (n i:Nat):(w32 n).getD i 0=if i< wlen 4 n then n / 4294967296 ^ i % 4294967296 else 0:=by
 split
 ·rename_i h;rw [List.getD_eq_getElem?_getD,Z6 h];rfl
 ·rename_i h;rw [List.getD_eq_getElem?_getD,List.getElem?_eq_none (by rw [Zk];omega)];rfl
theorem dig_lt (n i:Nat):n / 4294967296 ^ i % 4294967296< 4294967296:=Nat.mod_lt _ (by omega)
theorem ZQ (n k:Nat) (h:wlen 4 n≤k):lv 4294967296 ((w32 n).take k)=n:=by
 rw [List.take_of_length_le (by rw [Zk];exact h),ZaT]
theorem k_at_own' {K:AV→Prop} {xs:List (List D)} {m:Int} {o v n:Nat} (i:Nat) (hm:m=(i:Int)) (h:i< xs.length) (k:K (.val (.one (.rp o v n i 0)))):
  ∃ r,(0≤m∧m< (xs.length:Int)∧r= .val (.one (.rp o v n m.toNat 0)))∧K r:=⟨_,⟨by omega,by omega,rfl⟩,by subst hm;exact k⟩
set_option maxHeartbeats 1000000 in
theorem ZgA (a b:Nat) (hab:wlen 4 b≤wlen 4 a) (ha:wlen 4 a≤549755813888) (x y:Nat) (hxy:(x=a∧y=b)∨(x=b∧y=a∧wlen 4 b< wlen 4 a)):Spec Tryz.prog Tab 54 [n3 x,n3 y] (n3 (a+b)):=by
 have la:=Zaj a
 have lb:=Zaj b
 have hsum:a+b< 4294967296 ^ (wlen 4 a+1):=by
  have h1:=lt_B a
  have h2:b< 4294967296 ^ wlen 4 a:=Nat.lt_of_lt_of_le (lt_B b) (Nat.pow_le_pow_right (by omega) hab)
  rw [Nat.pow_succ];omega
 refine Zf Tryz.func54 rfl rfl Tryz.ntmps54 rfl (by kernel_rfl) rfl rfl ?_
 rcases hxy with ⟨rfl,rfl⟩|⟨rfl,rfl,hlt⟩
 ·refine⟨fun e=> ?_,fun e=> ?_⟩
  ·have e':=of_decide_eq_true e;rw [la,lb] at e';omega
  ·have h0:((W (w32 x)).length:Int)+1=((wlen 4 x+1:Nat):Int):=by rw [la];omega
   have hw0:IntKind.i64.wrap (((W (w32 x)).length:Int)+1)=((wlen 4 x+1:Nat):Int):=by rw [h0,wrap64 _ (by omega) (by omega)]
   refine⟨⟨by rw [hw0];omega,rfl,by rw [hw0];show ((wlen 4 x+1:Nat):Int)*((4:Nat):Int)≤_;omega,by rw [hw0];omega⟩,?_⟩
   refine⟨Nat×List Nat,fun s=> [(0,n3 x),(1,n3 y),(5,.val (.one (.row 18 0))),(6,u64v (s.1:Int)),(20,int ((wlen 4 x+1:Nat):Int)),(21,int (s.2.length:Int))],
    fun s=> [(18,.row 103 1 0 (rowN s.2 (wlen 4 x+1)) true)],
    fun s=>s.2.length≤wlen 4 x+1∧s.1≤1∧(∀ d,d∈s.2→d< 4294967296)∧lv 4294967296 s.2+s.1*4294967296 ^ s.2.length=lv 4294967296 ((w32 x).take s.2.length)+lv 4294967296 ((w32 y).take s.2.length),
    fun s=>wlen 4 x+1 - s.2.length,(0, []),?_,⟨Nat.zero_le _,Nat.zero_le _,fun d hd=>by simp at hd,by simp [lv]⟩,fun s hs=> ?_⟩
   ·constructor<;>(repeat' (first|exact rfl|exact True.intro|apply And.intro))
    all_goals first
     |(rw [hw0,Int.toNat_natCast];exact(ZeX _).symm)
     |(rw [hw0,Int.toNat_natCast,List.length_replicate];exact rfl)
     |(rw [hw0,Int.toNat_natCast];exact rfl)
     |exact rfl
   obtain⟨c,Z⟩:=s
   obtain⟨h1,h2,h3,h4⟩:=hs
   simp only at h1 h2 h3 h4
   refine⟨fun e1=> ?_,fun e1=> ?_⟩
   ·have hz:Z.length< wlen 4 x+1:=by have:=of_decide_eq_true e1;simp only at this;omega
    have hwi:IntKind.i64.wrap ((Z.length:Int)+1)=((Z.length+1:Nat):Int):=by rw [wrap64 _ (by omega) (by omega)];omega
    have da:=dig_lt x Z.length
    have db:=dig_lt y Z.length
    refine⟨fun e2=> ?_,fun e2=> ?_⟩
    ·have g1:Z.length< wlen 4 x:=by have:=of_decide_eq_true e2;simp only [la] at this;omega
     refine k_at [D.v (.int .u32 ((x / 4294967296 ^ Z.length % 4294967296:Nat):Int))] (Int.natCast_nonneg _) (by rw [Int.toNat_natCast];exact W_at (Z6 g1)) rfl ?_
     refine Zge (x / 4294967296 ^ Z.length % 4294967296) rfl (by omega) ?_
     refine⟨fun e3=> ?_,fun e3=> ?_⟩
     ·have g2:Z.length< wlen 4 y:=by have:=of_decide_eq_true e3;simp only [lb] at this;omega
      refine k_at [D.v (.int .u32 ((y / 4294967296 ^ Z.length % 4294967296:Nat):Int))] (Int.natCast_nonneg _) (by rw [Int.toNat_natCast];exact W_at (Z6 g2)) rfl ?_
      refine Zge (y / 4294967296 ^ Z.length % 4294967296) rfl (by omega) ?_
      have hraw:IntKind.u64.wrap (IntKind.u64.wrap ((c:Int)+((x / 4294967296 ^ Z.length % 4294967296:Nat):Int))+((y / 4294967296 ^ Z.length % 4294967296:Nat):Int))=((c+x / 4294967296 ^ Z.length % 4294967296+y / 4294967296 ^ Z.length % 4294967296:Nat):Int):=by rw [wu64 (m:=(c:Int)+_) (by omega) (by omega),wu64 (by omega) (by omega)];omega
      refine Zcv (c+x / 4294967296 ^ Z.length % 4294967296+y / 4294967296 ^ Z.length % 4294967296) hraw ?_
      refine Za1 (c+x / 4294967296 ^ Z.length % 4294967296+y / 4294967296 ^ Z.length % 4294967296) hraw ?_
      refine k_at_own' Z.length rfl (Z5 hz) ?_
      refine⟨Z5 hz,?_⟩
      have hstep:=ZaC (B:=4294967296) (Z:=Z) (X:=w32 x) (Y:=w32 y) (n:=(c+x / 4294967296 ^ Z.length % 4294967296+y / 4294967296 ^ Z.length % 4294967296) % 4294967296) (C:=(c+x / 4294967296 ^ Z.length % 4294967296+y / 4294967296 ^ Z.length % 4294967296) / 4294967296) rfl h4 (by rw [ZJ,ZJ,if_pos g1,if_pos g2];omega)
      refine⟨((c+x / 4294967296 ^ Z.length % 4294967296+y / 4294967296 ^ Z.length % 4294967296) / 4294967296,Z++ [(c+x / 4294967296 ^ Z.length % 4294967296+y / 4294967296 ^ Z.length % 4294967296) % 4294967296]),⟨by simp only [List.length_append,List.length_cons,List.length_nil];omega,by simp only;omega,ZF h3 (Nat.mod_lt _ (by omega)),by simpa only [List.length_append,List.length_cons,List.length_nil] using hstep⟩,by simp only [List.length_append,List.length_cons,List.length_nil];omega,?_⟩
      constructor<;>(repeat' (first|exact rfl|exact True.intro|apply And.intro))
      all_goals first
       |exact(ZaR hz _).symm
       |exact congrArg (fun n:Int=>D.v (.int .i64 n)) (by rw [hwi];simp)
     ·have g2:¬ Z.length< wlen 4 y:=by have:=of_decide_eq_false e3;simp only [lb] at this;omega
      have hraw:IntKind.u64.wrap ((c:Int)+((x / 4294967296 ^ Z.length % 4294967296:Nat):Int))=((c+x / 4294967296 ^ Z.length % 4294967296:Nat):Int):=by rw [wu64 (by omega) (by omega)];omega
      refine Zcv (c+x / 4294967296 ^ Z.length % 4294967296) hraw ?_
      refine Za1 (c+x / 4294967296 ^ Z.length % 4294967296) hraw ?_
      refine k_at_own' Z.length rfl (Z5 hz) ?_
      refine⟨Z5 hz,?_⟩
      have hstep:=ZaC (B:=4294967296) (Z:=Z) (X:=w32 x) (Y:=w32 y) (n:=(c+x / 4294967296 ^ Z.length % 4294967296) % 4294967296) (C:=(c+x / 4294967296 ^ Z.length % 4294967296) / 4294967296) rfl h4 (by rw [ZJ,ZJ,if_pos g1,if_neg g2];omega)
      refine⟨((c+x / 4294967296 ^ Z.length % 4294967296) / 4294967296,Z++ [(c+x / 4294967296 ^ Z.length % 4294967296) % 4294967296]),⟨by simp only [List.length_append,List.length_cons,List.length_nil];omega,by simp only;omega,ZF h3 (Nat.mod_lt _ (by omega)),by simpa only [List.length_append,List.length_cons,List.length_nil] using hstep⟩,by simp only [List.length_append,List.length_cons,List.length_nil];omega,?_⟩
      constructor<;>(repeat' (first|exact rfl|exact True.intro|apply And.intro))
      all_goals first
       |exact(ZaR hz _).symm
       |exact congrArg (fun n:Int=>D.v (.int .i64 n)) (by rw [hwi];simp)
    ·have g1:¬ Z.length< wlen 4 x:=by have:=of_decide_eq_false e2;simp only [la] at this;omega
     have g2:¬ Z.length< wlen 4 y:=by omega
     refine⟨fun e3=> ?_,fun e3=> ?_⟩
     ·exact absurd (of_decide_eq_true e3) (by simp only [lb];omega)
     ·have hraw:(c:Int)=((c:Nat):Int):=by rfl
      refine Zcv (c) hraw ?_
      refine Za1 (c) hraw ?_
      refine k_at_own' Z.length rfl (Z5 hz) ?_
      refine⟨Z5 hz,?_⟩
      have hstep:=ZaC (B:=4294967296) (Z:=Z) (X:=w32 x) (Y:=w32 y) (n:=(c) % 4294967296) (C:=(c) / 4294967296) rfl h4 (by rw [ZJ,ZJ,if_neg g1,if_neg g2];omega)
      refine⟨((c) / 4294967296,Z++ [(c) % 4294967296]),⟨by simp only [List.length_append,List.length_cons,List.length_nil];omega,by simp only;omega,ZF h3 (Nat.mod_lt _ (by omega)),by simpa only [List.length_append,List.length_cons,List.length_nil] using hstep⟩,by simp only [List.length_append,List.length_cons,List.length_nil];omega,?_⟩
      constructor<;>(repeat' (first|exact rfl|exact True.intro|apply And.intro))
      all_goals first
       |exact(ZaR hz _).symm
       |exact congrArg (fun n:Int=>D.v (.int .i64 n)) (by rw [hwi];simp)
   ·have hz:Z.length=wlen 4 x+1:=by have:=of_decide_eq_false e1;simp only at this;omega
    rw [ZQ x _ (by omega),ZQ y _ (by omega)] at h4
    have hc:c=0:=by
     apply Nat.eq_zero_of_not_pos
     intro hpos
     have:1*4294967296 ^ Z.length≤c*4294967296 ^ Z.length:=Nat.mul_le_mul_right _ hpos
     rw [hz] at this h4
     omega
    subst hc
    refine Zc4 Z (ZeY hz) h3 (by omega) ?_
    have:lv 4294967296 Z=x+y:=by rw [Nat.zero_mul,Nat.add_zero] at h4;rw [h4]
    refine Eq.trans (b:=n3 (lv 4294967296 Z)) ?_ rfl
    rw [this]
 ·refine⟨fun e=> ?_,fun e=> ?_⟩
  ·have h0:((W (w32 y)).length:Int)+1=((wlen 4 y+1:Nat):Int):=by rw [la];omega
   have hw0:IntKind.i64.wrap (((W (w32 y)).length:Int)+1)=((wlen 4 y+1:Nat):Int):=by rw [h0,wrap64 _ (by omega) (by omega)]
   refine⟨⟨by rw [hw0];omega,rfl,by rw [hw0];show ((wlen 4 y+1:Nat):Int)*((4:Nat):Int)≤_;omega,by rw [hw0];omega⟩,?_⟩
   refine⟨Nat×List Nat,fun s=> [(0,n3 y),(1,n3 x),(5,.val (.one (.row 18 0))),(6,u64v (s.1:Int)),(20,int ((wlen 4 y+1:Nat):Int)),(21,int (s.2.length:Int))],
    fun s=> [(18,.row 103 1 0 (rowN s.2 (wlen 4 y+1)) true)],
    fun s=>s.2.length≤wlen 4 y+1∧s.1≤1∧(∀ d,d∈s.2→d< 4294967296)∧lv 4294967296 s.2+s.1*4294967296 ^ s.2.length=lv 4294967296 ((w32 y).take s.2.length)+lv 4294967296 ((w32 x).take s.2.length),
    fun s=>wlen 4 y+1 - s.2.length,(0, []),?_,⟨Nat.zero_le _,Nat.zero_le _,fun d hd=>by simp at hd,by simp [lv]⟩,fun s hs=> ?_⟩
   ·constructor<;>(repeat' (first|exact rfl|exact True.intro|apply And.intro))
    all_goals first
     |(rw [hw0,Int.toNat_natCast];exact(ZeX _).symm)
     |(rw [hw0,Int.toNat_natCast,List.length_replicate];exact rfl)
     |(rw [hw0,Int.toNat_natCast];exact rfl)
     |exact rfl
   obtain⟨c,Z⟩:=s
   obtain⟨h1,h2,h3,h4⟩:=hs
   simp only at h1 h2 h3 h4
   refine⟨fun e1=> ?_,fun e1=> ?_⟩
   ·have hz:Z.length< wlen 4 y+1:=by have:=of_decide_eq_true e1;simp only at this;omega
    have hwi:IntKind.i64.wrap ((Z.length:Int)+1)=((Z.length+1:Nat):Int):=by rw [wrap64 _ (by omega) (by omega)];omega
    have da:=dig_lt y Z.length
    have db:=dig_lt x Z.length
    refine⟨fun e2=> ?_,fun e2=> ?_⟩
    ·have g1:Z.length< wlen 4 y:=by have:=of_decide_eq_true e2;simp only [la] at this;omega
     refine k_at [D.v (.int .u32 ((y / 4294967296 ^ Z.length % 4294967296:Nat):Int))] (Int.natCast_nonneg _) (by rw [Int.toNat_natCast];exact W_at (Z6 g1)) rfl ?_
     refine Zge (y / 4294967296 ^ Z.length % 4294967296) rfl (by omega) ?_
     refine⟨fun e3=> ?_,fun e3=> ?_⟩
     ·have g2:Z.length< wlen 4 x:=by have:=of_decide_eq_true e3;simp only [lb] at this;omega
      refine k_at [D.v (.int .u32 ((x / 4294967296 ^ Z.length % 4294967296:Nat):Int))] (Int.natCast_nonneg _) (by rw [Int.toNat_natCast];exact W_at (Z6 g2)) rfl ?_
      refine Zge (x / 4294967296 ^ Z.length % 4294967296) rfl (by omega) ?_
      have hraw:IntKind.u64.wrap (IntKind.u64.wrap ((c:Int)+((y / 4294967296 ^ Z.length % 4294967296:Nat):Int))+((x / 4294967296 ^ Z.length % 4294967296:Nat):Int))=((c+y / 4294967296 ^ Z.length % 4294967296+x / 4294967296 ^ Z.length % 4294967296:Nat):Int):=by rw [wu64 (m:=(c:Int)+_) (by omega) (by omega),wu64 (by omega) (by omega)];omega
      refine Zcv (c+y / 4294967296 ^ Z.length % 4294967296+x / 4294967296 ^ Z.length % 4294967296) hraw ?_
      refine Za1 (c+y / 4294967296 ^ Z.length % 4294967296+x / 4294967296 ^ Z.length % 4294967296) hraw ?_
      refine k_at_own' Z.length rfl (Z5 hz) ?_
      refine⟨Z5 hz,?_⟩
      have hstep:=ZaC (B:=4294967296) (Z:=Z) (X:=w32 y) (Y:=w32 x) (n:=(c+y / 4294967296 ^ Z.length % 4294967296+x / 4294967296 ^ Z.length % 4294967296) % 4294967296) (C:=(c+y / 4294967296 ^ Z.length % 4294967296+x / 4294967296 ^ Z.length % 4294967296) / 4294967296) rfl h4 (by rw [ZJ,ZJ,if_pos g1,if_pos g2];omega)
      refine⟨((c+y / 4294967296 ^ Z.length % 4294967296+x / 4294967296 ^ Z.length % 4294967296) / 4294967296,Z++ [(c+y / 4294967296 ^ Z.length % 4294967296+x / 4294967296 ^ Z.length % 4294967296) % 4294967296]),⟨by simp only [List.length_append,List.length_cons,List.length_nil];omega,by simp only;omega,ZF h3 (Nat.mod_lt _ (by omega)),by simpa only [List.length_append,List.length_cons,List.length_nil] using hstep⟩,by simp only [List.length_append,List.length_cons,List.length_nil];omega,?_⟩
      constructor<;>(repeat' (first|exact rfl|exact True.intro|apply And.intro))
      all_goals first
       |exact(ZaR hz _).symm
       |exact congrArg (fun n:Int=>D.v (.int .i64 n)) (by rw [hwi];simp)
     ·have g2:¬ Z.length< wlen 4 x:=by have:=of_decide_eq_false e3;simp only [lb] at this;omega
      have hraw:IntKind.u64.wrap ((c:Int)+((y / 4294967296 ^ Z.length % 4294967296:Nat):Int))=((c+y / 4294967296 ^ Z.length % 4294967296:Nat):Int):=by rw [wu64 (by omega) (by omega)];omega
      refine Zcv (c+y / 4294967296 ^ Z.length % 4294967296) hraw ?_
      refine Za1 (c+y / 4294967296 ^ Z.length % 4294967296) hraw ?_
      refine k_at_own' Z.length rfl (Z5 hz) ?_
      refine⟨Z5 hz,?_⟩
      have hstep:=ZaC (B:=4294967296) (Z:=Z) (X:=w32 y) (Y:=w32 x) (n:=(c+y / 4294967296 ^ Z.length % 4294967296) % 4294967296) (C:=(c+y / 4294967296 ^ Z.length % 4294967296) / 4294967296) rfl h4 (by rw [ZJ,ZJ,if_pos g1,if_neg g2];omega)
      refine⟨((c+y / 4294967296 ^ Z.length % 4294967296) / 4294967296,Z++ [(c+y / 4294967296 ^ Z.length % 4294967296) % 4294967296]),⟨by simp only [List.length_append,List.length_cons,List.length_nil];omega,by simp only;omega,ZF h3 (Nat.mod_lt _ (by omega)),by simpa only [List.length_append,List.length_cons,List.length_nil] using hstep⟩,by simp only [List.length_append,List.length_cons,List.length_nil];omega,?_⟩
      constructor<;>(repeat' (first|exact rfl|exact True.intro|apply And.intro))
      all_goals first
       |exact(ZaR hz _).symm
       |exact congrArg (fun n:Int=>D.v (.int .i64 n)) (by rw [hwi];simp)
    ·have g1:¬ Z.length< wlen 4 y:=by have:=of_decide_eq_false e2;simp only [la] at this;omega
     have g2:¬ Z.length< wlen 4 x:=by omega
     refine⟨fun e3=> ?_,fun e3=> ?_⟩
     ·exact absurd (of_decide_eq_true e3) (by simp only [lb];omega)
     ·have hraw:(c:Int)=((c:Nat):Int):=by rfl
      refine Zcv (c) hraw ?_
      refine Za1 (c) hraw ?_
      refine k_at_own' Z.length rfl (Z5 hz) ?_
      refine⟨Z5 hz,?_⟩
      have hstep:=ZaC (B:=4294967296) (Z:=Z) (X:=w32 y) (Y:=w32 x) (n:=(c) % 4294967296) (C:=(c) / 4294967296) rfl h4 (by rw [ZJ,ZJ,if_neg g1,if_neg g2];omega)
      refine⟨((c) / 4294967296,Z++ [(c) % 4294967296]),⟨by simp only [List.length_append,List.length_cons,List.length_nil];omega,by simp only;omega,ZF h3 (Nat.mod_lt _ (by omega)),by simpa only [List.length_append,List.length_cons,List.length_nil] using hstep⟩,by simp only [List.length_append,List.length_cons,List.length_nil];omega,?_⟩
      constructor<;>(repeat' (first|exact rfl|exact True.intro|apply And.intro))
      all_goals first
       |exact(ZaR hz _).symm
       |exact congrArg (fun n:Int=>D.v (.int .i64 n)) (by rw [hwi];simp)
   ·have hz:Z.length=wlen 4 y+1:=by have:=of_decide_eq_false e1;simp only at this;omega
    rw [ZQ y _ (by omega),ZQ x _ (by omega)] at h4
    have hc:c=0:=by
     apply Nat.eq_zero_of_not_pos
     intro hpos
     have:1*4294967296 ^ Z.length≤c*4294967296 ^ Z.length:=Nat.mul_le_mul_right _ hpos
     rw [hz] at this h4
     omega
    subst hc
    refine Zc4 Z (ZeY hz) h3 (by omega) ?_
    have:lv 4294967296 Z=y+x:=by rw [Nat.zero_mul,Nat.add_zero] at h4;rw [h4]
    refine Eq.trans (b:=n3 (lv 4294967296 Z)) ?_ rfl
    rw [this]
  ·have e':=of_decide_eq_false e;rw [la,lb] at e';omega
theorem Zhy (a b:Nat) (ha:wlen 4 a≤549755813888) (hb:wlen 4 b≤549755813888):Spec Tryz.prog Tab 54 [n3 a,n3 b] (n3 (a+b)):=by
 rcases Nat.lt_or_ge (wlen 4 a) (wlen 4 b) with h|h
 ·have:=ZgA b a (Nat.le_of_lt h) hb a b (.inr ⟨rfl,rfl,h⟩)
  rwa [Nat.add_comm] at this
 ·exact ZgA a b h ha a b (.inl ⟨rfl,rfl⟩)
theorem Zll {K:AV→Prop} {a b:Nat} (ha:wlen 4 a≤549755813888) (hb:wlen 4 b≤549755813888) (k:K (n3 (a+b))):Ask 54 [n3 a,n3 b] K:=use (Zhy a b ha hb) rfl k
end Go.Proofs.YtjlhknppkodilaaGreatDoor.eng
namespace Go.Proofs.YtjlhknppkodilaaGreatDoor.eng
open Go.RowKit num mem seg q held ratA ratB ratC ratD ratE vars ratF sub32
theorem ZiI (x y b:Nat) (hx:x< 4294967296) (hy:y< 4294967296) (hb:b≤1):Spec Tryz.prog Tab 78 [u32v (x:Int),u32v (y:Int),u32v (b:Int)] (.tup [.one (.d (.v (.int .u32 (dif x y b:Int)))),.one (.d (.v (.int .u32 (bw x y b:Int))))]):=
 Zu (Zt Tryz.func78 rfl rfl) rfl rfl fun w _=>(Zmc x y b w hx hy hb).mono fun _ _ h=>⟨h.1,h.2 ▸ Below.refl _ _⟩
theorem Zle {K:AV→Prop} (x y b:Nat) (hx:x< 4294967296) (hy:y< 4294967296) (hb:b≤1) (k:K (.tup [.one (.d (.v (.int .u32 (dif x y b:Int)))),.one (.d (.v (.int .u32 (bw x y b:Int))))])):Ask 78 [u32v (x:Int),u32v (y:Int),u32v (b:Int)] K:=
 use (ZiI x y b hx hy hb) rfl k
theorem ZnV (x y b:Nat) (hx:x< 4294967296) (hy:y< 4294967296) (hb:b≤1):dif x y b+y+b=x+bw x y b*4294967296∧bw x y b≤1:=by
 unfold dif bw
 split<;>omega
set_option maxHeartbeats 1000000 in
theorem ZgE (a b:Nat) (hab:b≤a) (ha:wlen 4 a≤549755813888):Spec Tryz.prog Tab 56 [n3 a,n3 b] (n3 (a - b)):=by
 have la:=Zaj a
 have lb:=Zaj b
 have hlb:=wlen_mono hab
 refine Zf Tryz.func56 rfl rfl Tryz.ntmps56 rfl (by kernel_rfl) rfl rfl ?_
 refine⟨⟨Int.natCast_nonneg _,rfl,by rw [la];show ((wlen 4 a:Nat):Int)*((4:Nat):Int)≤_;omega,by rw [la];omega⟩,?_⟩
 refine⟨Nat×List Nat,fun s=> [(0,n3 a),(1,n3 b),(5,.val (.one (.row 11 0))),(6,u32v (s.1:Int)),(13,int ((wlen 4 a:Nat):Int)),(14,int (s.2.length:Int))],
  fun s=> [(11,.row 103 1 0 (rowN s.2 (wlen 4 a)) true)],
  fun s=>s.2.length≤wlen 4 a∧s.1≤1∧(∀ d,d∈s.2→d< 4294967296)∧lv 4294967296 s.2+lv 4294967296 ((w32 b).take s.2.length)=lv 4294967296 ((w32 a).take s.2.length)+s.1*4294967296 ^ s.2.length,
  fun s=>wlen 4 a - s.2.length,(0, []),?_,⟨Nat.zero_le _,Nat.zero_le _,fun d hd=>by simp at hd,by simp [lv]⟩,fun s hs=> ?_⟩
 ·constructor<;>(repeat' (first|exact rfl|exact True.intro|apply And.intro))
  all_goals first
   |(rw [la,Int.toNat_natCast];exact(ZeX _).symm)
   |(rw [la];exact rfl)
   |exact rfl
 obtain⟨c,Z⟩:=s
 obtain⟨h1,h2,h3,h4⟩:=hs
 simp only at h1 h2 h3 h4
 refine⟨fun e1=> ?_,fun e1=> ?_⟩
 ·have hz:Z.length< wlen 4 a:=by have:=of_decide_eq_true e1;simp only at this;omega
  have hwi:IntKind.i64.wrap ((Z.length:Int)+1)=((Z.length+1:Nat):Int):=by rw [wrap64 _ (by omega) (by omega)];omega
  have da:=dig_lt a Z.length
  have db:=dig_lt b Z.length
  refine⟨fun e2=> ?_,fun e2=> ?_⟩
  ·have g2:Z.length< wlen 4 b:=by have:=of_decide_eq_true e2;simp only [lb] at this;omega
   refine k_at [D.v (.int .u32 ((b / 4294967296 ^ Z.length % 4294967296:Nat):Int))] (Int.natCast_nonneg _) (by rw [Int.toNat_natCast];exact W_at (Z6 g2)) rfl ?_
   refine k_at [D.v (.int .u32 ((a / 4294967296 ^ Z.length % 4294967296:Nat):Int))] (Int.natCast_nonneg _) (by rw [Int.toNat_natCast];exact W_at (Z6 hz)) rfl ?_
   refine Zle (a / 4294967296 ^ Z.length % 4294967296) (b / 4294967296 ^ Z.length % 4294967296) c da db h2 ?_
   refine k_at_own' Z.length rfl (Z5 hz) ?_
   refine⟨Z5 hz,?_⟩
   obtain⟨d1,d2⟩:=ZnV (a / 4294967296 ^ Z.length % 4294967296) (b / 4294967296 ^ Z.length % 4294967296) c da db h2
   have hstep:=Za5 (B:=4294967296) (Z:=Z) (X:=w32 a) (Y:=w32 b) (n:=dif (a / 4294967296 ^ Z.length % 4294967296) (b / 4294967296 ^ Z.length % 4294967296) c) (C:=bw (a / 4294967296 ^ Z.length % 4294967296) (b / 4294967296 ^ Z.length % 4294967296) c) rfl h4 (by rw [ZJ,ZJ,if_pos hz,if_pos g2];omega)
   refine⟨(bw (a / 4294967296 ^ Z.length % 4294967296) (b / 4294967296 ^ Z.length % 4294967296) c,Z++ [dif (a / 4294967296 ^ Z.length % 4294967296) (b / 4294967296 ^ Z.length % 4294967296) c]),⟨by simp only [List.length_append,List.length_cons,List.length_nil];omega,d2,ZF h3 (Zir _ _ _),by simpa only [List.length_append,List.length_cons,List.length_nil] using hstep⟩,by simp only [List.length_append,List.length_cons,List.length_nil];omega,?_⟩
   constructor<;>(repeat' (first|exact rfl|exact True.intro|apply And.intro))
   all_goals first
    |exact(ZaR hz _).symm
    |exact congrArg (fun n:Int=>D.v (.int .i64 n)) (by rw [hwi];simp)
  ·have g2:¬ Z.length< wlen 4 b:=by have:=of_decide_eq_false e2;simp only [lb] at this;omega
   refine k_at [D.v (.int .u32 ((a / 4294967296 ^ Z.length % 4294967296:Nat):Int))] (Int.natCast_nonneg _) (by rw [Int.toNat_natCast];exact W_at (Z6 hz)) rfl ?_
   refine Zle (a / 4294967296 ^ Z.length % 4294967296) 0 c da (by omega) h2 ?_
   refine k_at_own' Z.length rfl (Z5 hz) ?_
   refine⟨Z5 hz,?_⟩
   obtain⟨d1,d2⟩:=ZnV (a / 4294967296 ^ Z.length % 4294967296) 0 c da (by omega) h2
   have hstep:=Za5 (B:=4294967296) (Z:=Z) (X:=w32 a) (Y:=w32 b) (n:=dif (a / 4294967296 ^ Z.length % 4294967296) 0 c) (C:=bw (a / 4294967296 ^ Z.length % 4294967296) 0 c) rfl h4 (by rw [ZJ,ZJ,if_pos hz,if_neg g2];omega)
   refine⟨(bw (a / 4294967296 ^ Z.length % 4294967296) 0 c,Z++ [dif (a / 4294967296 ^ Z.length % 4294967296) 0 c]),⟨by simp only [List.length_append,List.length_cons,List.length_nil];omega,d2,ZF h3 (Zir _ _ _),by simpa only [List.length_append,List.length_cons,List.length_nil] using hstep⟩,by simp only [List.length_append,List.length_cons,List.length_nil];omega,?_⟩
   constructor<;>(repeat' (first|exact rfl|exact True.intro|apply And.intro))
   all_goals first
    |exact(ZaR hz _).symm
    |exact congrArg (fun n:Int=>D.v (.int .i64 n)) (by rw [hwi];simp)
 ·have hz:Z.length=wlen 4 a:=by have:=of_decide_eq_false e1;simp only at this;omega
  rw [ZQ a _ (by omega),ZQ b _ (by omega)] at h4
  have hlt:=ZcR (B:=4294967296) (l:=Z) h3
  have hc:c=0:=by
   apply Nat.eq_zero_of_not_pos
   intro hpos
   have:1*4294967296 ^ Z.length≤c*4294967296 ^ Z.length:=Nat.mul_le_mul_right _ hpos
   omega
  subst hc
  refine Zc4 Z (ZeY hz) h3 (by omega) ?_
  have:lv 4294967296 Z=a - b:=by rw [Nat.zero_mul,Nat.add_zero] at h4;omega
  refine Eq.trans (b:=n3 (lv 4294967296 Z)) ?_ rfl
  rw [this]
theorem Zhg {K:AV→Prop} {a b:Nat} (hab:b≤a) (ha:wlen 4 a≤549755813888) (k:K (n3 (a - b))):Ask 56 [n3 a,n3 b] K:=use (ZgE a b hab ha) rfl k
end Go.Proofs.YtjlhknppkodilaaGreatDoor.eng
namespace Go.Proofs.YtjlhknppkodilaaGreatDoor.eng
open Go.RowKit num mem seg q held ratA ratB ratC ratD ratE vars ratF sub32
theorem Zhk {K:AV→Prop} {ty:Ty} {xs:List (List D)} {i n off:Nat} (ds:List D) (r:AV) (h:xs[i]? =some ds) (hl:ds.length=n) (hp:planIs (planCells ty (((ds.drop off).take ty.size).map .d)) r) (k:K r):
  ∃ r,(∃ ds,xs[i]? =some ds∧ds.length=n∧planIs (planCells ty (((ds.drop off).take ty.size).map .d)) r)∧K r:=⟨r,⟨ds,h,hl,hp⟩,k⟩
theorem Ziy {l:List Nat} {i:Nat} (h:i< l.length):(W l)[i]? =some [D.v (.int .u32 ((l.getD i 0:Nat):Int))]:=by
 rw [List.getD_eq_getElem?_getD,List.getElem?_eq_getElem h];exact W_at (List.getElem?_eq_getElem h)
theorem W_lt {l:List Nat} {i:Nat} (h:i< l.length):i< (W l).length:=by rw [ZjA];exact h
theorem Zf7 (n i:Nat) (h:i< wlen 4 n):lv 4294967296 ((w32 n).take (i+1))=lv 4294967296 ((w32 n).take i)+4294967296 ^ i*(n / 4294967296 ^ i % 4294967296):=by
 rw [Zn,ZJ,if_pos h]
theorem ZdB (n j:Nat):(List.replicate n 0).getD j 0=0:=by
 simp only [List.getD_eq_getElem?_getD,List.getElem?_replicate];split<;>rfl
set_option maxHeartbeats 2000000 in
theorem Zha (a b:Nat) (ha:wlen 4 a≤274877906944) (hb:wlen 4 b≤274877906944):Spec Tryz.prog Tab 52 [n3 a,n3 b] (n3 (a*b)):=by
 have la:=Zaj a
 have lb:=Zaj b
 have hsum:IntKind.i64.wrap (((W (w32 a)).length:Int)+((W (w32 b)).length:Int))=((wlen 4 a+wlen 4 b:Nat):Int):=by rw [la,lb,wrap64 _ (by omega) (by omega)];omega
 refine Zf Tryz.func52 rfl rfl Tryz.ntmps52 rfl (by kernel_rfl) rfl rfl ?_
 refine⟨⟨by rw [hsum];omega,rfl,by rw [hsum];show ((wlen 4 a+wlen 4 b:Nat):Int)*((4:Nat):Int)≤_;omega,by rw [hsum];omega⟩,?_⟩
 refine⟨Nat×List Nat,fun s=> [(0,n3 a),(1,n3 b),(5,.val (.one (.row 16 0))),(17,n3 a),(18,int ((wlen 4 a:Nat):Int)),(19,int (s.1:Int))],
  fun s=> [(16,.row 103 1 0 (W s.2) true)],
  fun s=>s.1≤wlen 4 a∧s.2.length=wlen 4 a+wlen 4 b∧(∀ d,d∈s.2→d< 4294967296)∧(∀ j,s.1+wlen 4 b≤j→s.2.getD j 0=0)∧lv 4294967296 s.2=lv 4294967296 ((w32 a).take s.1)*b,
  fun s=>wlen 4 a - s.1,(0,List.replicate (wlen 4 a+wlen 4 b) 0),?_,⟨Nat.zero_le _,by simp,fun d hd=>by rw [(List.mem_replicate.1 hd).2];omega,fun j _=>ZdB _ _,by rw [Zaq];simp [lv]⟩,fun s hs=> ?_⟩
 ·constructor<;>(repeat' (first|exact rfl|exact True.intro|apply And.intro))
  all_goals first
   |(rw [hsum,Int.toNat_natCast];exact(Zfr _).symm)
   |(rw [la];exact rfl)
   |exact rfl
 obtain⟨i,O⟩:=s
 obtain⟨h1,h2,h3,h4,h5⟩:=hs
 simp only at h1 h2 h3 h4 h5
 refine⟨fun e1=> ?_,fun e1=> ?_⟩
 ·have hi:i< wlen 4 a:=by have:=of_decide_eq_true e1;simp only at this;omega
  have hwi:IntKind.i64.wrap ((i:Int)+1)=((i+1:Nat):Int):=by rw [wrap64 _ (by omega) (by omega)];omega
  have dw:=dig_lt a i
  refine k_at [D.v (.int .u32 ((a / 4294967296 ^ i % 4294967296:Nat):Int))] (Int.natCast_nonneg _) (by rw [Int.toNat_natCast];exact W_at (Z6 hi)) rfl ?_
  generalize hwd:a / 4294967296 ^ i % 4294967296=x at dw
  refine⟨Nat×Nat×List Nat,fun s=> [(0,n3 a),(1,n3 b),(5,.val (.one (.row 16 0))),(6,int (i:Int)),(7,u32v (x:Int)),(8,u64v (s.2.1:Int)),(17,n3 a),(18,int ((wlen 4 a:Nat):Int)),(19,int (i:Int)),(24,n3 b),(25,int ((wlen 4 b:Nat):Int)),(26,int (s.1:Int))],
   fun s=> [(16,.row 103 1 0 (W s.2.2) true)],
   fun s=>s.1≤wlen 4 b∧s.2.1< 4294967296∧s.2.2.length=wlen 4 a+wlen 4 b∧(∀ d,d∈s.2.2→d< 4294967296)∧(∀ j,i+wlen 4 b≤j→s.2.2.getD j 0=0)∧lv 4294967296 s.2.2+s.2.1*4294967296 ^ (i+s.1)=lv 4294967296 O+x*4294967296 ^ i*lv 4294967296 ((w32 b).take s.1),
   fun s=>wlen 4 b - s.1,(0,0,O),?_,⟨Nat.zero_le _,by show 0< 4294967296;omega,h2,h3,h4,by simp [lv]⟩,fun s hs=> ?_⟩
  ·constructor<;>(repeat' (first|exact rfl|exact True.intro|apply And.intro))
   all_goals first
    |(rw [hwd];exact rfl)
    |(rw [lb];exact rfl)
    |exact rfl
  obtain⟨k,c,U⟩:=s
  obtain⟨g1,g2,g3,g4,g5,g6⟩:=hs
  simp only at g1 g2 g3 g4 g5 g6
  have hik:IntKind.i64.wrap ((i:Int)+(k:Int))=((i+k:Nat):Int):=by rw [wrap64 _ (by omega) (by omega)];omega
  refine⟨fun e2=> ?_,fun e2=> ?_⟩
  ·have hk:k< wlen 4 b:=by have:=of_decide_eq_true e2;simp only at this;omega
   have hwk:IntKind.i64.wrap ((k:Int)+1)=((k+1:Nat):Int):=by rw [wrap64 _ (by omega) (by omega)];omega
   have dy:=dig_lt b k
   have hlt:i+k< U.length:=by omega
   have dO:=Zq (B:=4294967296) (l:=U) (by omega) g4 (i+k)
   refine k_at [D.v (.int .u32 ((b / 4294967296 ^ k % 4294967296:Nat):Int))] (Int.natCast_nonneg _) (by rw [Int.toNat_natCast];exact W_at (Z6 hk)) rfl ?_
   have hcol:=Zk2 (B:=4294967296) (S:=lv 4294967296 O) (w:=x) (c:=c) (k:=k) (i:=i) (O:=U) (Y:=w32 b) hlt g6 rfl
   have hat:=Ziy hlt
   rw [ZJ,if_pos hk] at hcol
   generalize b / 4294967296 ^ k % 4294967296=y at dy hcol
   generalize U.getD (i+k) 0=o at dO hcol hat
   have hxy:x*y≤4294967295*4294967295:=Nat.mul_le_mul (by omega) (by omega)
   have hm:(x:Int)*(y:Int)=((x*y:Nat):Int):=(Int.natCast_mul x y).symm
   have hraw:IntKind.u64.wrap ((c:Int)+IntKind.u64.wrap (IntKind.u64.wrap ((x:Int)*(y:Int))+(o:Int)))=((c+(x*y+o):Nat):Int):=by
    rw [hm,wu64 (m:=((x*y:Nat):Int)) (by omega) (by omega),wu64 (m:=((x*y:Nat):Int)+(o:Int)) (by omega) (by omega),wu64 (by omega) (by omega)];omega
   refine Zge x rfl (by omega) ?_
   refine Zge y rfl (by omega) ?_
   refine k_at_own' (i+k) hik (W_lt hlt) ?_
   refine Zhk [D.v (.int .u32 (o:Int))] (u32v (o:Int)) hat rfl rfl ?_
   refine Zge o rfl (by omega) ?_
   refine Zcv (c+(x*y+o)) hraw ?_
   refine Za1 (c+(x*y+o)) hraw ?_
   refine k_at_own' (i+k) hik (W_lt hlt) ?_
   refine⟨W_lt hlt,?_⟩
   refine⟨(k+1,(c+(x*y+o)) / 4294967296,U.set (i+k) ((c+(x*y+o)) % 4294967296)),⟨hk,by simp only;omega,by simp only [List.length_set];exact g3,ZaD g4 (Nat.mod_lt _ (by omega)),fun j hj=> ?_,hcol⟩,by simp only;omega,?_⟩
   ·simp only
    rw [ZH (by omega)];exact g5 j hj
   constructor<;>(repeat' (first|exact rfl|exact True.intro|apply And.intro))
   all_goals first
    |exact(Zd6 _ _ _).symm
    |exact congrArg (fun n:Int=>D.v (.int .i64 n)) hwk.symm
  ·have hk:k=wlen 4 b:=by have:=of_decide_eq_false e2;simp only at this;omega
   subst hk
   have hib:IntKind.i64.wrap ((i:Int)+((W (w32 b)).length:Int))=((i+wlen 4 b:Nat):Int):=by rw [lb];exact hik
   have hlt:i+wlen 4 b< U.length:=by omega
   rw [ZQ b _ (Nat.le_refl _)] at g6
   refine Zcv c rfl ?_
   refine k_at_own' (i+wlen 4 b) hib (W_lt hlt) ?_
   refine⟨W_lt hlt,?_⟩
   have hset:=ZbT (B:=4294967296) (l:=U) (j:=i+wlen 4 b) (d:=c % 4294967296) hlt
   rw [g5 _ (Nat.le_refl _),Nat.mod_eq_of_lt g2,Nat.mul_zero,Nat.add_zero] at hset
   refine⟨(i+1,U.set (i+wlen 4 b) (c % 4294967296)),⟨hi,by simp only [List.length_set];exact g3,ZaD g4 (Nat.mod_lt _ (by omega)),fun j hj=> ?_,?_⟩,by simp only;omega,?_⟩
   ·simp only at hj ⊢
    rw [ZH (by omega)];exact g5 j (by omega)
   ·simp only
    rw [Nat.mod_eq_of_lt g2,hset,Zf7 a i hi,hwd,Nat.add_mul,← h5,Nat.mul_comm (4294967296 ^ (i+wlen 4 b)) c,g6,Nat.mul_comm (4294967296 ^ i) x]
   constructor<;>(repeat' (first|exact rfl|exact True.intro|apply And.intro))
   all_goals first
    |exact(Zd6 _ _ _).symm
    |exact congrArg (fun n:Int=>D.v (.int .i64 n)) hwi.symm
 ·have hi:i=wlen 4 a:=by have:=of_decide_eq_false e1;simp only at this;omega
  subst hi
  rw [ZQ a _ (Nat.le_refl _)] at h5
  refine Zc4 O rfl h3 (by omega) ?_
  refine Eq.trans (b:=n3 (lv 4294967296 O)) ?_ rfl
  rw [h5]
theorem Zb5 {K:AV→Prop} {a b:Nat} (ha:wlen 4 a≤274877906944) (hb:wlen 4 b≤274877906944) (k:K (n3 (a*b))):Ask 52 [n3 a,n3 b] K:=use (Zha a b ha hb) rfl k
end Go.Proofs.YtjlhknppkodilaaGreatDoor.eng
namespace Go.Proofs.YtjlhknppkodilaaGreatDoor.eng
open Go.RowKit num mem seg q held ratA ratB ratC ratD ratE vars ratF sub32
section
variable {K : AV → Prop} {T : TypeId} {ox oy : Operand}
theorem Zmy (T:TypeId) (ox oy:Operand) (n d:Nat) (hd:0< d) (hn:n< 9223372036854775808) (w:World):(do eqGuard .quo T ox oy (.int .i64 (n:Int)) (.int .i64 (d:Int));binOp .quo T (.int .i64 (n:Int)) (.int .i64 (d:Int)):Sem Value).run Tryz.prog w= .ok (.int .i64 ((n / d:Nat):Int)) w:=by
 have h0:¬ (d:Int)=0:=by omega
 have h1:n / d≤n:=Nat.div_le_self n d
 have e1:(n:Int).tdiv (d:Int)=((n / d:Nat):Int):=rfl
 have hb:Op.intDiv .quo .i64 (n:Int) (d:Int)=pure (.int .i64 ((n / d:Nat):Int)):=by
  unfold Op.intDiv
  rw [if_neg h0]
  show pure (Value.int .i64 (IntKind.i64.wrap ((n:Int).tdiv (d:Int))))=_
  rw [e1]
  generalize n / d=z at h1
  rw [wrap64 _ (by omega) (by omega)]
 rw [eqGuard_quo,binOp_quo,hb]
 rfl
theorem Zmx (T:TypeId) (ox oy:Operand) (n d:Nat) (hd:0< d) (w:World):(do eqGuard .rem T ox oy (.int .i64 (n:Int)) (.int .i64 (d:Int));binOp .rem T (.int .i64 (n:Int)) (.int .i64 (d:Int)):Sem Value).run Tryz.prog w= .ok (.int .i64 ((n % d:Nat):Int)) w:=by
 have h0:¬ (d:Int)=0:=by omega
 have e1:(n:Int).tmod (d:Int)=((n % d:Nat):Int):=rfl
 have hg:eqGuard .rem T ox oy (.int .i64 (n:Int)) (.int .i64 (d:Int))=pure ():=rfl
 rw [hg,binOp_rem]
 unfold Op.intDiv
 rw [if_neg h0]
 simp only [e1]
 rfl
theorem Zbp {x y:Int} (n d:Nat) (hx:x=n) (hy:y=d) (hd:0< d) (hn:n< 9223372036854775808) (k:K (int ((n / d:Nat):Int))):AskB .quo T ox oy (.int .i64 x) (.int .i64 y) K:=by
 subst hx hy
 exact⟨_,⟨_,rfl,rfl,Zmy T ox oy n d hd hn⟩,k⟩
theorem Zc6 {x y:Int} (n d:Nat) (hx:x=n) (hy:y=d) (hd:0< d) (k:K (int ((n % d:Nat):Int))):AskB .rem T ox oy (.int .i64 x) (.int .i64 y) K:=by
 subst hx hy
 exact⟨_,⟨_,rfl,rfl,Zmx T ox oy n d hd⟩,k⟩
theorem Zkj (T:TypeId) (ox oy:Operand) (n r:Nat) (hr:r≤64) (h:n*2 ^ r< 18446744073709551616) (w:World):(do eqGuard .shl T ox oy (.int .u64 (n:Int)) (.int .i64 (r:Int));binOp .shl T (.int .u64 (n:Int)) (.int .i64 (r:Int)):Sem Value).run Tryz.prog w= .ok (.int .u64 ((n*2 ^ r:Nat):Int)) w:=by
 have hg:eqGuard .shl T ox oy (.int .u64 (n:Int)) (.int .i64 (r:Int))=pure ():=rfl
 rw [hg,binOp_shl]
 unfold Op.shift
 rw [if_neg (by omega)]
 have hm:min (r:Int).toNat IntKind.u64.bits=r:=by rw [Int.toNat_natCast];exact Nat.min_eq_left hr
 have e1:(n:Int)*2 ^ r=((n*2 ^ r:Nat):Int):=by rw [Int.natCast_mul,Int.natCast_pow];rfl
 simp only [hm,e1]
 rw [wu64 (by omega) (by omega)]
 rfl
theorem Zow {x y:Int} (n r:Nat) (hx:x=n) (hy:y=r) (hr:r≤64) (h:n*2 ^ r< 18446744073709551616) (k:K (u64v ((n*2 ^ r:Nat):Int))):AskB .shl T ox oy (.int .u64 x) (.int .i64 y) K:=by
 subst hx hy
 exact⟨_,⟨_,rfl,rfl,Zkj T ox oy n r hr h⟩,k⟩
theorem ZmA (T:TypeId) (ox oy:Operand) (a b i:Nat) (hb:b< 2 ^ i) (h:a*2 ^ i+b< 4294967296) (w:World):(do eqGuard .or T ox oy (.int .u32 (b:Int)) (.int .u32 ((a*2 ^ i:Nat):Int));binOp .or T (.int .u32 (b:Int)) (.int .u32 ((a*2 ^ i:Nat):Int)):Sem Value).run Tryz.prog w= .ok (.int .u32 ((a*2 ^ i+b:Nat):Int)) w:=by
 have e:=Zfw i a b hb h
 have hc:bits .or .u32 (b:Int) ((a*2 ^ i:Nat):Int)=bits .or .u32 ((a*2 ^ i:Nat):Int) (b:Int):=by
  rw [u32_or_nat b (a*2 ^ i) (by omega) (by omega),u32_or_nat (a*2 ^ i) b (by omega) (by omega),Nat.or_comm]
 rw [← e,← hc]
 simp [go_sem]
theorem Zlh {x y:Int} (a b i:Nat) (hx:x=b) (hy:y=((a*2 ^ i:Nat):Int)) (hb:b< 2 ^ i) (h:a*2 ^ i+b< 4294967296) (k:K (u32v ((a*2 ^ i+b:Nat):Int))):AskB .or T ox oy (.int .u32 x) (.int .u32 y) K:=by
 subst hx hy
 exact⟨_,⟨_,rfl,rfl,ZmA T ox oy a b i hb h⟩,k⟩
end
end Go.Proofs.YtjlhknppkodilaaGreatDoor.eng
namespace Go.Proofs.YtjlhknppkodilaaGreatDoor.eng
open Go.RowKit num mem seg q held ratA ratB ratC ratD ratE vars ratF sub32
theorem Zfj {l:List Nat} {j d:Nat} (h:j< l.length):(l.set j d).getD j 0=d:=by simp [List.getD,h]
theorem pow_two (e:Nat):(4294967296:Nat) ^ e=2 ^ (32*e):=by rw [show (4294967296:Nat)=2 ^ 32 from rfl,← Nat.pow_mul]
theorem ZmN {r:Nat} (h:r< 32):(2:Nat) ^ r≤2147483648:=Nat.pow_le_pow_right (by omega) (show r≤31 by omega)
theorem Zkd (x r:Nat) (hr:r< 32):x*2 ^ r % 4294967296=x % 2 ^ (32 - r)*2 ^ r∧x*2 ^ r=x*2 ^ r % 4294967296+4294967296*(x*2 ^ r / 4294967296):=by
 constructor
 ·have e:(4294967296:Nat)=2 ^ (32 - r)*2 ^ r:=by rw [← Nat.pow_add,show 32 - r+r=32 by omega]
  rw [e,Nat.mul_mod_mul_right]
 ·have:=Nat.div_add_mod (x*2 ^ r) 4294967296;omega
set_option maxHeartbeats 2000000 in
theorem Zmu (a k:Nat) (ha:wlen 4 a≤274877906944) (hk:k≤1099511627776):Spec Tryz.prog Tab 92 [n3 a,int (k:Int)] (n3 (a*2 ^ k)):=by
 have la:=Zaj a
 obtain⟨q,hq⟩:∃ q,k / 32=q:=⟨_,rfl⟩
 obtain⟨r,hr⟩:∃ r,k % 32=r:=⟨_,rfl⟩
 have hr32:r< 32:=by omega
 have hkq:k=32*q+r:=by omega
 have p0:0< 2 ^ r:=Nat.pow_pos (by omega)
 have p1:=ZmN hr32
 have hq1:IntKind.i64.wrap (((W (w32 a)).length:Int)+((q:Nat):Int))=((wlen 4 a+q:Nat):Int):=by rw [la,wrap64 _ (by omega) (by omega)];omega
 have hq2:IntKind.i64.wrap (IntKind.i64.wrap (((W (w32 a)).length:Int)+((q:Nat):Int))+1)=((wlen 4 a+q+1:Nat):Int):=by rw [hq1,wrap64 _ (by omega) (by omega)];omega
 refine Zf Tryz.func92 rfl rfl Tryz.ntmps92 rfl (by kernel_rfl) rfl rfl ?_
 refine Zbp k 32 rfl rfl (by omega) (by omega) ?_
 rw [hq]
 refine⟨⟨by rw [hq2];omega,rfl,by rw [hq2];show ((wlen 4 a+q+1:Nat):Int)*((4:Nat):Int)≤_;omega,by rw [hq2];omega⟩,?_⟩
 refine⟨Nat×List Nat,fun s=> [(0,n3 a),(1,int (k:Int)),(5,.val (.one (.row 15 0))),(16,n3 a),(17,int ((wlen 4 a:Nat):Int)),(18,int (s.1:Int))],
  fun s=> [(15,.row 103 1 0 (W s.2) true)],
  fun s=>s.1≤wlen 4 a∧s.2.length=wlen 4 a+q+1∧(∀ d,d∈s.2→d< 4294967296)∧s.2.getD (s.1+q) 0< 2 ^ r∧(∀ j,s.1+q+1≤j→s.2.getD j 0=0)∧lv 4294967296 s.2=lv 4294967296 ((w32 a).take s.1)*2 ^ k,
  fun s=>wlen 4 a - s.1,(0,List.replicate (wlen 4 a+q+1) 0),?_,⟨Nat.zero_le _,by simp,fun d hd=>by rw [(List.mem_replicate.1 hd).2];omega,by simp only [ZdB];exact p0,fun j _=>ZdB _ _,by rw [Zaq];simp [lv]⟩,fun s hs=> ?_⟩
 ·constructor<;>(repeat' (first|exact rfl|exact True.intro|apply And.intro))
  all_goals first
   |(rw [hq2,Int.toNat_natCast];exact(Zfr _).symm)
   |(rw [la];exact rfl)
   |exact rfl
 obtain⟨i,O⟩:=s
 obtain⟨h1,h2,h3,h4,h5,h6⟩:=hs
 simp only at h1 h2 h3 h4 h5 h6
 refine⟨fun e1=> ?_,fun e1=> ?_⟩
 ·have hi:i< wlen 4 a:=by have:=of_decide_eq_true e1;simp only at this;omega
  have hwi:IntKind.i64.wrap ((i:Int)+1)=((i+1:Nat):Int):=by rw [wrap64 _ (by omega) (by omega)];omega
  have hiq:IntKind.i64.wrap ((i:Int)+((q:Nat):Int))=((i+q:Nat):Int):=by rw [wrap64 _ (by omega) (by omega)];omega
  have hiq1:IntKind.i64.wrap (IntKind.i64.wrap ((i:Int)+((q:Nat):Int))+1)=((i+q+1:Nat):Int):=by rw [hiq,wrap64 _ (by omega) (by omega)];omega
  have dx:=dig_lt a i
  have hval:=Zf7 a i hi
  refine k_at [D.v (.int .u32 ((a / 4294967296 ^ i % 4294967296:Nat):Int))] (Int.natCast_nonneg _) (by rw [Int.toNat_natCast];exact W_at (Z6 hi)) rfl ?_
  generalize a / 4294967296 ^ i % 4294967296=x at dx hval
  have hlt:i+q< O.length:=by omega
  have hlt1:i+q+1< O.length:=by omega
  obtain⟨s1,s2⟩:=Zkd x r hr32
  have hy:x*2 ^ r≤4294967295*2147483648:=Nat.mul_le_mul (by omega) p1
  have hlow:x % 2 ^ (32 - r)*2 ^ r< 4294967296:=by rw [← s1];exact Nat.mod_lt _ (by omega)
  have hat:=Ziy hlt
  generalize hod:O.getD (i+q) 0=o at h4 hat
  have hsum:x % 2 ^ (32 - r)*2 ^ r+o< 4294967296:=by
   have e:(4294967296:Nat)=2 ^ (32 - r)*2 ^ r:=by rw [← Nat.pow_add,show 32 - r+r=32 by omega]
   have h7:x % 2 ^ (32 - r)< 2 ^ (32 - r):=Nat.mod_lt _ (Nat.pow_pos (by omega))
   have h8:(x % 2 ^ (32 - r)+1)*2 ^ r≤2 ^ (32 - r)*2 ^ r:=Nat.mul_le_mul_right _ h7
   rw [← e,Nat.add_mul,Nat.one_mul] at h8
   omega
  have hhigh:x*2 ^ r / 4294967296< 2 ^ r:=by
   apply Nat.div_lt_of_lt_mul
   exact Nat.mul_lt_mul_of_pos_right dx p0
  refine Zge x rfl (by omega) ?_
  refine Zc6 k 32 rfl rfl (by omega) ?_
  rw [hr]
  refine Zow x r rfl rfl (by omega) (by omega) ?_
  refine Zbp k 32 rfl rfl (by omega) (by omega) ?_
  rw [hq]
  refine k_at_own' (i+q) hiq (W_lt hlt) ?_
  refine Zhk [D.v (.int .u32 (o:Int))] (u32v (o:Int)) hat rfl rfl ?_
  refine Zcv (x*2 ^ r) rfl ?_
  refine Zlh (x % 2 ^ (32 - r)) o r rfl (by rw [s1]) h4 hsum ?_
  refine k_at_own' (i+q) hiq (W_lt hlt) ?_
  refine⟨W_lt hlt,?_⟩
  refine Zbp k 32 rfl rfl (by omega) (by omega) ?_
  rw [hq]
  have hU:(O.set (i+q) (x % 2 ^ (32 - r)*2 ^ r+o)).getD (i+q+1) 0=0:=by rw [ZH (by omega)];exact h5 _ (Nat.le_refl _)
  have hlt2:i+q+1< (O.set (i+q) (x % 2 ^ (32 - r)*2 ^ r+o)).length:=by rw [List.length_set];exact hlt1
  have hat2:=Ziy hlt2
  rw [hU] at hat2
  refine k_at_own' (i+q+1) hiq1 (by rw [Zd6];exact W_lt hlt2) ?_
  refine Zhk [D.v (.int .u32 ((0:Nat):Int))] (u32v ((0:Nat):Int)) (by rw [Zd6];exact hat2) rfl rfl ?_
  refine Za1 (x*2 ^ r) rfl ?_
  refine Zcv (x*2 ^ r / 4294967296) rfl ?_
  refine Zlh (x*2 ^ r / 4294967296) 0 0 rfl (by rw [Nat.mod_eq_of_lt (by omega)];simp) (by decide) (by simp;omega) ?_
  refine k_at_own' (i+q+1) hiq1 (by rw [Zd6];exact W_lt hlt2) ?_
  refine⟨by rw [Zd6];exact W_lt hlt2,?_⟩
  have hs1:=ZbT (B:=4294967296) (l:=O) (j:=i+q) (d:=x % 2 ^ (32 - r)*2 ^ r+o) hlt
  have hs2:=ZbT (B:=4294967296) (l:=O.set (i+q) (x % 2 ^ (32 - r)*2 ^ r+o)) (j:=i+q+1) (d:=x*2 ^ r / 4294967296) hlt2
  rw [hU,Nat.mul_zero,Nat.add_zero] at hs2
  rw [hod] at hs1
  refine⟨(i+1,(O.set (i+q) (x % 2 ^ (32 - r)*2 ^ r+o)).set (i+q+1) (x*2 ^ r / 4294967296)),⟨hi,by simp only [List.length_set];exact h2,ZaD (ZaD h3 hsum) (by omega),?_,fun j hj=> ?_,?_⟩,by simp only;omega,?_⟩
  ·simp only
   rw [show i+1+q=i+q+1 by omega,Zfj hlt2];exact hhigh
  ·simp only at hj ⊢
   rw [ZH (by omega),ZH (by omega)];exact h5 j (by omega)
  ·simp only
   have hB:4294967296 ^ (i+q+1)*(x*2 ^ r / 4294967296)=4294967296 ^ (i+q)*(4294967296*(x*2 ^ r / 4294967296)):=by rw [Nat.pow_succ,Nat.mul_assoc]
   have hkk:2 ^ k=4294967296 ^ q*2 ^ r:=by rw [pow_two,← Nat.pow_add,← hkq]
   have hx2:4294967296 ^ i*x*2 ^ k=4294967296 ^ (i+q)*(x*2 ^ r):=by rw [hkk,Nat.pow_add];simp only [Nat.mul_comm,Nat.mul_left_comm,Nat.mul_assoc]
   rw [Nat.mul_add] at hs1
   rw [hs2,hval,Nat.add_mul,hx2,← h6,hB]
   rw [s1] at s2
   have:=congrArg (fun z=>4294967296 ^ (i+q)*z) s2
   simp only [Nat.mul_add] at this
   omega
  constructor<;>(repeat' (first|exact rfl|exact True.intro|apply And.intro))
  all_goals first
   |(rw [Zd6,Nat.pow_zero,Nat.mul_one,Nat.add_zero];exact(Zd6 _ _ _).symm)
   |exact congrArg (fun n:Int=>D.v (.int .i64 n)) hwi.symm
 ·have hi:i=wlen 4 a:=by have:=of_decide_eq_false e1;simp only at this;omega
  subst hi
  rw [ZQ a _ (Nat.le_refl _)] at h6
  refine Zc4 O rfl h3 (by omega) ?_
  refine Eq.trans (b:=n3 (lv 4294967296 O)) ?_ rfl
  rw [h6]
end Go.Proofs.YtjlhknppkodilaaGreatDoor.eng
namespace Go.Proofs.YtjlhknppkodilaaGreatDoor.eng
open Go.RowKit num mem seg q held ratA ratB ratC ratD ratE vars ratF sub32
theorem Zl3:∀ x:Nat,0< x→x< 4294967296→2 ^ Lib.bitLen x≤2*x∧x< 2 ^ Lib.bitLen x:=by
 intro x
 induction x using Nat.strongRecOn with
 |_ x ih=>
  intro h0 hx
  have hb:=Lib.bitLen_half x (by omega) (by omega)
  by_cases h1:x / 2=0
  ·have:x=1:=by omega
   subst this
   decide
  ·obtain⟨g1,g2⟩:=ih (x / 2) (by omega) (by omega) (by omega)
   rw [hb,Nat.add_comm,Nat.pow_succ]
   omega
theorem ZpS {x:Nat} (h0:0< x) (hx:x< 4294967296):Lib.bitLen x≤32:=by
 obtain⟨h1,_⟩:=Zl3 x h0 hx
 apply Nat.le_of_not_lt
 intro h
 have:2 ^ 33≤2 ^ Lib.bitLen x:=Nat.pow_le_pow_right (by omega) h
 omega
def sz (n:Nat):Nat:=if wlen 4 n=0 then 0 else 32*(wlen 4 n - 1)+Lib.bitLen (n / 4294967296 ^ (wlen 4 n - 1) % 4294967296)
theorem ZS (n:Nat):wlen 4 n=0↔n=0:=by
 constructor
 ·intro h
  have:=lt_B n
  rw [h] at this;simpa using this
 ·intro h;subst h;exact Nat.le_zero.1 ((Zam (by omega)).2 (by decide))
theorem top_pos {n:Nat} (h:0< n):0< wlen 4 n∧0< n / 4294967296 ^ (wlen 4 n - 1)∧n / 4294967296 ^ (wlen 4 n - 1)< 4294967296:=by
 have h1:0< wlen 4 n:=Nat.pos_of_ne_zero (fun e=>by have:=(ZS n).1 e;omega)
 have h2:4294967296 ^ (wlen 4 n - 1)≤n:=by
  apply Nat.le_of_not_lt
  intro hlt
  have:=(Zam (s:=4) (n:=n) (k:=wlen 4 n - 1) (by omega)).2 (by simpa using hlt)
  omega
 have h3:=lt_B n
 obtain⟨m,hm⟩:∃ m,wlen 4 n=m+1:=⟨wlen 4 n - 1,by omega⟩
 rw [hm] at h2 h3 ⊢
 simp only [Nat.add_sub_cancel] at h2 ⊢
 refine⟨by omega,Nat.div_pos h2 (Nat.pow_pos (by omega)),?_⟩
 apply Nat.div_lt_of_lt_mul
 rw [Nat.pow_succ] at h3;exact h3
theorem ZjY {n:Nat} (h:0< n):2 ^ sz n≤2*n∧n< 2 ^ sz n:=by
 obtain⟨h1,h2,h3⟩:=top_pos h
 unfold sz
 rw [if_neg (by omega),Nat.mod_eq_of_lt h3,Nat.pow_add,← pow_two]
 generalize hP:4294967296 ^ (wlen 4 n - 1)=P at h2 h3 ⊢
 have hp:0< P:=by rw [← hP];exact Nat.pow_pos (by omega)
 obtain⟨g1,g2⟩:=Zl3 (n / P) h2 h3
 generalize Lib.bitLen (n / P)=b at g1 g2 ⊢
 have e:=Nat.div_add_mod n P
 have hr:=Nat.mod_lt n hp
 generalize n / P=t at*
 constructor
 ·have:=Nat.mul_le_mul_left P g1
  rw [Nat.mul_left_comm] at this
  omega
 ·have:=Nat.mul_le_mul_left P g2
  rw [Nat.succ_eq_add_one,Nat.mul_add,Nat.mul_one] at this
  omega
theorem Zo0 (n:Nat):sz n≤32*wlen 4 n:=by
 unfold sz
 split
 ·omega
 ·rename_i h
  have h0:0< n:=Nat.pos_of_ne_zero (fun e=>h ((ZS n).2 e))
  obtain⟨h1,h2,h3⟩:=top_pos h0
  rw [Nat.mod_eq_of_lt h3]
  have:=ZpS h2 h3
  omega
section
variable {K : AV → Prop} {a b : Nat}
theorem Zot (x:Nat) (hx:x< 4294967296):Spec Tryz.prog Tab 101 [u32v (x:Int)] (int (32 - (Lib.bitLen x:Int))):=
 Zu (Zt Tryz.func101 rfl rfl) rfl rfl fun w _=>(Tryz.bits_LeadingZeros32 (x:Int) w (by omega) (by omega)).mono fun _ _ h=>⟨by rw [h.1,Int.toNat_natCast],h.2 ▸ Below.refl _ _⟩
theorem k_lz (x:Nat) (hx:x< 4294967296) (k:K (int (32 - (Lib.bitLen x:Int)))):Ask 101 [u32v (x:Int)] K:=use (Zot x hx) rfl k
theorem Zka (n:Nat) (hn:wlen 4 n≤17179869184):Spec Tryz.prog Tab 91 [n3 n] (int (sz n:Int)):=by
 have la:=Zaj n
 refine Zf Tryz.func91 rfl rfl Tryz.ntmps91 rfl (by kernel_rfl) rfl rfl ?_
 refine⟨fun e=> ?_,fun e=> ?_⟩
 ·have h0:wlen 4 n=0:=by
   have:((((W (w32 n)).length:Nat):Int)==0)=true:=e
   rw [la] at this;simp at this;omega
  refine Eq.trans (b:=int 0) ?_ rfl
  rw [sz,if_pos h0];rfl
 ·have h0:wlen 4 n≠0:=by
   intro h
   have:((((W (w32 n)).length:Nat):Int)==0)=false:=e
   rw [la,h] at this;simp at this
  obtain⟨m,hm⟩:∃ m,wlen 4 n=m+1:=⟨wlen 4 n - 1,by omega⟩
  have hw:IntKind.i64.wrap (((W (w32 n)).length:Int) - 1)=(m:Int):=by rw [la,hm,wrap64 _ (by omega) (by omega)];omega
  have dt:=dig_lt n m
  have hp:0< n:=Nat.pos_of_ne_zero (fun e=>h0 ((ZS n).2 e))
  obtain⟨t1,t2,t3⟩:=top_pos hp
  have hbl:=ZpS t2 t3
  rw [hm,Nat.add_sub_cancel] at t2 t3 hbl
  refine k_at [D.v (.int .u32 ((n / 4294967296 ^ m % 4294967296:Nat):Int))] (by rw [hw];omega) (by rw [hw,Int.toNat_natCast];exact W_at (Z6 (by omega))) rfl ?_
  refine k_lz (n / 4294967296 ^ m % 4294967296) dt ?_
  refine Eq.trans (b:=int (IntKind.i64.wrap (IntKind.i64.wrap (32*((W (w32 n)).length:Int)) - (32 - (Lib.bitLen (n / 4294967296 ^ m % 4294967296):Int))))) ?_ rfl
  rw [sz,if_neg h0,la,hm,Nat.add_sub_cancel,Nat.mod_eq_of_lt t3]
  generalize Lib.bitLen (n / 4294967296 ^ m)=b at hbl
  rw [wrap64 (32*_) (by omega) (by omega),wrap64 _ (by omega) (by omega)]
  congr 1;omega
theorem ZnM (hn:wlen 4 a≤17179869184) (k:K (int (sz a:Int))):Ask 91 [n3 a] K:=use (Zka a hn) rfl k
theorem Zlg {x:Int} {vv:List (List D)} (a k:Nat) (hv:vv=W (w32 a)) (hx:x=k) (ha:wlen 4 a≤274877906944) (hk:k≤1099511627776) (kk:K (n3 (a*2 ^ k))):Ask 92 [.val (.one (.d (.list vv))),int x] K:=by
 subst hv hx
 exact use (Zmu a k ha hk) rfl kk
theorem ZbX:w32 1= [1]:=by
 have:=ZeH (l:= [1]) (by simp) (by
  intro d t h
  have: []++ [1]=t++ [d]:=h
  have:=(List.append_inj' this rfl).2
  simp at this;omega)
 simpa [lv] using this
theorem ZhM:w32 0= []:=List.eq_nil_of_length_eq_zero (by rw [Zk];exact(ZS 0).2 rfl)
theorem ZpZ (n:Nat):n< 2 ^ sz n:=by
 rcases Nat.eq_zero_or_pos n with rfl|h
 ·exact Nat.pow_pos (by omega)
 ·exact(ZjY h).2
theorem ZjK {n k:Nat} (h:n< 2 ^ (32*k)):wlen 4 n≤k:=(Zam (by omega)).2 (by rw [show (256:Nat) ^ 4=4294967296 from rfl,pow_two];exact h)
theorem Zac {n m:Nat} (h:n≤m) {k:Nat} (hk:wlen 4 m≤k):wlen 4 n≤k:=Nat.le_trans (wlen_mono h) hk
set_option maxHeartbeats 1000000 in
theorem Zho (a b:Nat) (hb:0< b) (ha:wlen 4 a≤8589934592) (hbl:wlen 4 b≤8589934592):Spec Tryz.prog Tab 77 [n3 a,n3 b] (two (n3 (a / b)) (n3 (a % b))):=by
 have sa:=Zo0 a
 have sb:=Zo0 b
 have hsub:IntKind.i64.wrap ((sz a:Int) - (sz b:Int))=(sz a:Int) - (sz b:Int):=wrap64 _ (by omega) (by omega)
 obtain⟨hz1,hz2⟩:=ZjY hb
 have hza:=ZpZ a
 refine Zf Tryz.func77 rfl rfl Tryz.ntmps77 rfl (by kernel_rfl) rfl rfl ?_
 refine ZnM (by omega) ?_
 refine ZnM (by omega) ?_
 refine⟨Int×Nat×Nat,fun s=> [(0,n3 s.2.1),(1,n3 b),(6,n3 s.2.2),(7,int s.1)],fun _=> [],
  fun s=>s.1≤(sz a:Int) - (sz b:Int)∧-1099511627776≤s.1∧s.2.1≤a∧s.2.2*b+s.2.1=a∧s.2.1< b*2 ^ (s.1+1).toNat,fun s=>(s.1+1).toNat,((sz a:Int) - (sz b:Int),a,0),?_,?_,fun s hs=> ?_⟩
 ·constructor<;>(repeat' (first|exact rfl|exact True.intro|apply And.intro))
  all_goals first
   |exact(show mtD (.v (.slice none 0 0)) (.list (W (w32 0))) by rw [ZhM];exact True.intro)
   |(rw [hsub];exact rfl)
 ·refine⟨Int.le_refl _,by simp only;omega,Nat.le_refl _,by simp,?_⟩
  simp only
  by_cases h:sz b≤sz a
  ·obtain⟨i,hi⟩:∃ i,sz a=sz b+i:=⟨sz a - sz b,by omega⟩
   have e:((sz a:Int) - (sz b:Int)+1).toNat=i+1:=by omega
   rw [e]
   rw [hi,Nat.pow_add] at hza
   have:=Nat.mul_le_mul_right (2 ^ i) hz1
   rw [Nat.pow_succ]
   have e2:b*(2 ^ i*2)=2*b*2 ^ i:=by rw [Nat.mul_comm (2 ^ i) 2,← Nat.mul_assoc,Nat.mul_comm b 2]
   omega
  ·have e:((sz a:Int) - (sz b:Int)+1).toNat=0:=by omega
   rw [e,Nat.pow_zero,Nat.mul_one]
   have h2:2 ^ (sz a+1)≤2 ^ sz b:=Nat.pow_le_pow_right (by omega) (by omega)
   rw [Nat.pow_succ] at h2
   omega
 obtain⟨i,x,q⟩:=s
 obtain⟨h1,h2,h3,h4,h5⟩:=hs
 simp only at h1 h2 h3 h4 h5
 have hq:q≤a:=by
  have:q*1≤q*b:=Nat.mul_le_mul_left _ hb
  omega
 refine⟨fun e1=> ?_,fun e1=> ?_⟩
 ·have hi:0≤i:=of_decide_eq_true e1
  obtain⟨k,rfl⟩:∃ k:Nat,i=k:=⟨i.toNat,by omega⟩
  have hwi:IntKind.i64.wrap ((k:Int) - 1)=(k:Int) - 1:=wrap64 _ (by omega) (by omega)
  have ek:((k:Int)+1).toNat=k+1:=by omega
  have ek2:((k:Int) - 1+1).toNat=k:=by omega
  rw [ek,Nat.pow_succ,← Nat.mul_assoc] at h5
  have hbk:b*2 ^ k< 2 ^ (32*wlen 4 a):=by
   have g1:b*2 ^ k< 2 ^ sz b*2 ^ k:=Nat.mul_lt_mul_of_pos_right hz2 (Nat.pow_pos (by omega))
   rw [← Nat.pow_add] at g1
   exact Nat.lt_of_lt_of_le g1 (Nat.pow_le_pow_right (by omega) (by omega))
  have wbk:=ZjK hbk
  have w2k:wlen 4 (1*2 ^ k)≤8589934592:=Zac (Nat.mul_le_mul_right _ hb) (Nat.le_trans wbk ha)
  refine Zlg b k rfl rfl (by omega) (by omega) ?_
  refine Zli (Zac h3 (by omega)) (by omega) fun v hv=> ?_
  refine⟨fun e2=> ?_,fun e2=> ?_⟩
  ·have hge:b*2 ^ k≤x:=hv.1 (of_decide_eq_true e2)
   refine Zhg hge (Zac h3 (by omega)) ?_
   refine Zlg 1 k (by rw [ZbX];rfl) rfl (by rw [show wlen 4 1=1 by rw [← Zk,ZbX];rfl];omega) (by omega) ?_
   refine Zll (Zac hq (by omega)) (by omega) ?_
   refine⟨((k:Int) - 1,x - b*2 ^ k,q+1*2 ^ k),⟨by simp only;omega,by simp only;omega,by simp only;omega,?_,?_⟩,by simp only;omega,?_⟩
   ·simp only
    rw [Nat.add_mul,Nat.one_mul,Nat.mul_comm (2 ^ k) b];omega
   ·simp only
    rw [ek2];omega
   constructor<;>(repeat' (first|exact rfl|exact True.intro|apply And.intro))
   all_goals exact congrArg (fun n:Int=>D.v (.int .i64 n)) hwi.symm
  ·have hlt:x< b*2 ^ k:=by
    apply Nat.lt_of_not_le
    intro hc
    exact absurd (hv.2 hc) (of_decide_eq_false e2)
   refine⟨((k:Int) - 1,x,q),⟨by simp only;omega,by simp only;omega,h3,h4,by simp only;rw [ek2];exact hlt⟩,by simp only;omega,?_⟩
   constructor<;>(repeat' (first|exact rfl|exact True.intro|apply And.intro))
   all_goals exact congrArg (fun n:Int=>D.v (.int .i64 n)) hwi.symm
 ·have hi:¬ 0≤i:=of_decide_eq_false e1
  have e0:(i+1).toNat=0:=by omega
  rw [e0,Nat.pow_zero,Nat.mul_one] at h5
  have hu:a / b=q∧a % b=x:=(Nat.div_mod_unique hb).2 ⟨by rw [Nat.mul_comm b q];omega,h5⟩
  refine Eq.trans (b:=two (n3 q) (n3 x)) ?_ rfl
  rw [hu.1,hu.2]
theorem ZdI (hb:0< b) (ha:wlen 4 a≤8589934592) (hbl:wlen 4 b≤8589934592) (k:K (two (n3 (a / b)) (n3 (a % b)))):Ask 77 [n3 a,n3 b] K:=use (Zho a b hb ha hbl) rfl k
theorem Zhm (a b:Nat) (ha:wlen 4 a≤8589934592) (hb:wlen 4 b≤8589934592):Spec Tryz.prog Tab 75 [n3 a,n3 b] (n3 (Nat.gcd a b)):=by
 refine Zf Tryz.func75 rfl rfl Tryz.ntmps75 rfl (by kernel_rfl) rfl rfl ?_
 refine⟨Nat×Nat,fun s=> [(0,n3 s.1),(1,n3 s.2)],fun _=> [],fun s=>Nat.gcd s.1 s.2=Nat.gcd a b∧wlen 4 s.1≤8589934592∧wlen 4 s.2≤8589934592,fun s=>s.2,(a,b),?_,⟨rfl,ha,hb⟩,fun s hs=> ?_⟩
 ·constructor<;>(repeat' (first|exact rfl|exact True.intro|apply And.intro))
 obtain⟨x,y⟩:=s
 obtain⟨h1,h2,h3⟩:=hs
 simp only at h1 h2 h3
 have ly:=Zaj y
 refine⟨fun e1=> ?_,fun e1=> ?_⟩
 ·have hy:0< y:=by
   have:=of_decide_eq_true e1
   simp only [ly] at this
   apply Nat.pos_of_ne_zero
   intro h;rw [(ZS y).2 h] at this;simp at this
  refine ZdI hy h2 h3 ?_
  have hlt:=Nat.mod_lt x hy
  refine⟨(y,x % y),⟨by simp only;rw [← h1,Nat.gcd_comm x y,Nat.gcd_rec y x,Nat.gcd_comm],h3,Zac (Nat.le_of_lt hlt) h3⟩,hlt,?_⟩
  constructor<;>(repeat' (first|exact rfl|exact True.intro|apply And.intro))
 ·have hy:y=0:=by
   have:=of_decide_eq_false e1
   simp only [ly] at this
   exact(ZS y).1 (by omega)
  subst hy
  refine Eq.trans (b:=n3 x) ?_ rfl
  rw [← h1,Nat.gcd_zero_right]
theorem Zfc (ha:wlen 4 a≤8589934592) (hb:wlen 4 b≤8589934592) (k:K (n3 (Nat.gcd a b))):Ask 75 [n3 a,n3 b] K:=use (Zhm a b ha hb) rfl k
end
end Go.Proofs.YtjlhknppkodilaaGreatDoor.eng
namespace Go.Proofs.YtjlhknppkodilaaGreatDoor.eng
open Go.RowKit num mem seg q held ratA ratB ratC ratD ratE vars ratF sub32
section
variable {K : AV → Prop} {T : TypeId} {ox oy : Operand} {a b : Nat}
theorem Zb7 {s:ByteArray} {m:Int} (b:UInt8) (h0:0≤m) (hb:s[m.toNat]? =some b) (k:K (one (.int .u8 (b.toNat:Int)))):
  ∃ r,(∃ b:UInt8,0≤m∧s[m.toNat]? =some b∧r=one (.int .u8 (b.toNat:Int)))∧K r:=⟨_,⟨b,h0,hb,rfl⟩,k⟩
theorem ZpH {n i:Nat} (h:i< (enc n).size):∃ b:UInt8,(enc n)[(enc n).size - 1 - i]? =some b∧b.toNat=n / 256 ^ i % 256:=by
 have hl:(enc n).size - 1 - i< (enc n).size:=by omega
 refine⟨(enc n)[(enc n).size - 1 - i],?_,Zcc n i h⟩
 exact getElem?_pos (enc n) _ hl
theorem Zn1 (n:Nat):IntKind.u8.wrap (n:Int)=((n % 256:Nat):Int):=by
 unfold IntKind.wrap
 simp [IntKind.signed,IntKind.bits]
theorem Zi2 (T:TypeId) (ox oy:Operand) (n r:Nat) (hr:r≤32) (h:n*2 ^ r< 4294967296) (w:World):(do eqGuard .shl T ox oy (.int .u32 (n:Int)) (.int .i64 (r:Int));binOp .shl T (.int .u32 (n:Int)) (.int .i64 (r:Int)):Sem Value).run Tryz.prog w= .ok (.int .u32 ((n*2 ^ r:Nat):Int)) w:=by
 have hg:eqGuard .shl T ox oy (.int .u32 (n:Int)) (.int .i64 (r:Int))=pure ():=rfl
 rw [hg,binOp_shl]
 unfold Op.shift
 rw [if_neg (by omega)]
 have hm:min (r:Int).toNat IntKind.u32.bits=r:=by rw [Int.toNat_natCast];exact Nat.min_eq_left hr
 have e1:(n:Int)*2 ^ r=((n*2 ^ r:Nat):Int):=by rw [Int.natCast_mul,Int.natCast_pow];rfl
 simp only [hm,e1]
 rw [wu32 (by omega) (by omega)]
 rfl
theorem Zm8 {x y:Int} (n r:Nat) (hx:x=n) (hy:y=r) (hr:r≤32) (h:n*2 ^ r< 4294967296) (k:K (u32v ((n*2 ^ r:Nat):Int))):AskB .shl T ox oy (.int .u32 x) (.int .i64 y) K:=by
 subst hx hy
 exact⟨_,⟨_,rfl,rfl,Zi2 T ox oy n r hr h⟩,k⟩
theorem Zi1 (T:TypeId) (ox oy:Operand) (n r:Nat) (hr:r≤32) (w:World):(do eqGuard .shr T ox oy (.int .u32 (n:Int)) (.int .i64 (r:Int));binOp .shr T (.int .u32 (n:Int)) (.int .i64 (r:Int)):Sem Value).run Tryz.prog w= .ok (.int .u32 ((n / 2 ^ r:Nat):Int)) w:=by
 have hg:eqGuard .shr T ox oy (.int .u32 (n:Int)) (.int .i64 (r:Int))=pure ():=rfl
 rw [hg,binOp_shr]
 unfold Op.shift
 rw [if_neg (by omega)]
 have hm:min (r:Int).toNat IntKind.u32.bits=r:=by rw [Int.toNat_natCast];exact Nat.min_eq_left hr
 have e1:(n:Int).fdiv (2 ^ r)=((n / 2 ^ r:Nat):Int):=by
  have:(2:Int) ^ r=((2 ^ r:Nat):Int):=by rw [Int.natCast_pow];rfl
  rw [this,Int.fdiv_eq_ediv_of_nonneg _ (Int.natCast_nonneg _)]
  exact(Int.natCast_ediv _ _).symm
 simp only [hm,e1]
 rfl
theorem Zm7 {x y:Int} (n r:Nat) (hx:x=n) (hy:y=r) (hr:r≤32) (k:K (u32v ((n / 2 ^ r:Nat):Int))):AskB .shr T ox oy (.int .u32 x) (.int .i64 y) K:=by
 subst hx hy
 exact⟨_,⟨_,rfl,rfl,Zi1 T ox oy n r hr⟩,k⟩
theorem pow256 (r:Nat):(256:Nat) ^ r=2 ^ (r*8):=by rw [show (256:Nat)=2 ^ 8 from rfl,← Nat.pow_mul,Nat.mul_comm]
set_option maxHeartbeats 1000000 in
theorem Zi9 (n:Nat) (hn:(enc n).size≤34359738368):Spec Tryz.prog Tab 50 [str (enc n)] (n3 n):=by
 obtain⟨L,hL⟩:∃ L,(enc n).size=L:=⟨_,rfl⟩
 have hwl:(L+3) / 4=wlen 4 n:=by rw [← hL];rfl
 have hw0:IntKind.i64.wrap (((enc n).size:Int)+3)=((L+3:Nat):Int):=by rw [hL,wrap64 _ (by omega) (by omega)];omega
 refine Zf Tryz.func50 rfl rfl Tryz.ntmps50 rfl (by kernel_rfl) rfl rfl ?_
 refine Zbp (L+3) 4 hw0 rfl (by omega) (by omega) ?_
 rw [hwl]
 refine⟨⟨Int.natCast_nonneg _,rfl,by show ((wlen 4 n:Nat):Int)*((4:Nat):Int)≤_;omega,by omega⟩,?_⟩
 refine⟨Nat,fun i=> [(0,str (enc n)),(3,.val (.one (.row 10 0))),(12,int ((L:Nat):Int)),(13,int (i:Int))],
  fun i=> [(10,.row 103 1 0 (W (prt 4 n i (wlen 4 n))) true)],fun i=>i≤L,fun i=>L - i,0,?_,Nat.zero_le _,fun i hs=> ?_⟩
 ·constructor<;>(repeat' (first|exact rfl|exact True.intro|apply And.intro))
  all_goals first
   |(rw [hL];exact rfl)
   |(rw [Int.toNat_natCast,Ze4];exact(Zfr _).symm)
 refine⟨fun e1=> ?_,fun e1=> ?_⟩
 ·have hi:i< L:=by have:=of_decide_eq_true e1;omega
  have hwi:IntKind.i64.wrap ((i:Int)+1)=((i+1:Nat):Int):=by rw [wrap64 _ (by omega) (by omega)];omega
  have hwk:IntKind.i64.wrap (IntKind.i64.wrap (((enc n).size:Int) - 1) - (i:Int))=((L - 1 - i:Nat):Int):=by rw [hL,wrap64 (_ - 1) (by omega) (by omega),wrap64 _ (by omega) (by omega)];omega
  obtain⟨b,hb,hbv⟩:=ZpH (n:=n) (i:=i) (by omega)
  rw [hL] at hb
  have hq:i / 4< wlen 4 n:=by omega
  have hlt:i / 4< (prt 4 n i (wlen 4 n)).length:=by rw [ZcJ];exact hq
  have hold:=Zg3 (s:=4) (n:=n) (i:=i) (N:=wlen 4 n) (by omega) hq
  have hstep:=Ze5 (s:=4) (n:=n) (i:=i) (N:=wlen 4 n) (by omega)
  have hat:=Ziy hlt
  generalize (prt 4 n i (wlen 4 n)).getD (i / 4) 0=o at hold hstep hat
  rw [← hbv] at hstep
  have hb256:=b.toNat_lt
  have hr:i % 4< 4:=Nat.mod_lt _ (by omega)
  rw [pow256] at hold hstep
  have hp:2 ^ (i % 4*8)≤16777216:=Nat.pow_le_pow_right (n:=2) (by omega) (show i % 4*8≤24 by omega)
  have hsum:b.toNat*2 ^ (i % 4*8)+o< 4294967296:=by
   have h1:(b.toNat+1)*2 ^ (i % 4*8)≤256*16777216:=Nat.mul_le_mul (by omega) hp
   rw [Nat.add_mul,Nat.one_mul] at h1
   omega
  have hmul:IntKind.i64.wrap (((i % 4:Nat):Int)*8)=((i % 4*8:Nat):Int):=by rw [wrap64 _ (by omega) (by omega)];omega
  refine Zbp i 4 rfl rfl (by omega) (by omega) ?_
  refine k_at_own' (i / 4) rfl (W_lt hlt) ?_
  refine Zhk [D.v (.int .u32 (o:Int))] (u32v (o:Int)) hat rfl rfl ?_
  refine Zb7 b (by rw [hwk];omega) (by rw [hwk,Int.toNat_natCast];exact hb) ?_
  refine Zeq s_u8 Zn5 (b.toNat:Int) (by rw [wu32 (by omega) (by omega)]) ?_
  refine Zc6 i 4 rfl rfl (by omega) ?_
  refine Zm8 b.toNat (i % 4*8) rfl hmul (by omega) (by omega) ?_
  refine Zlh b.toNat o (i % 4*8) rfl rfl hold hsum ?_
  refine k_at_own' (i / 4) rfl (W_lt hlt) ?_
  refine⟨W_lt hlt,?_⟩
  refine⟨by kernel_rfl,?_⟩
  rw [Nat.add_comm o] at hstep
  refine⟨i+1,hi,by simp only;omega,?_⟩
  constructor<;>(repeat' (first|exact rfl|exact True.intro|apply And.intro))
  all_goals first
   |(rw [← hstep];exact(Zd6 _ _ _).symm)
   |exact congrArg (fun n:Int=>D.v (.int .i64 n)) hwi.symm
 ·have hi:i=L:=by have:=of_decide_eq_false e1;omega
  subst hi
  have hall:prt 4 n i (wlen 4 n)=w32 n:=by
   rw [Zg4 (by omega) (Zl.1 (by omega))];rfl
  refine Zc4 (w32 n) (by rw [hall]) (Zbq n) (by rw [Zk];omega) ?_
  rw [ZaT]
  exact rfl
theorem Za2 {n:Nat} {s:ByteArray} (hs:s=enc n) (hn:(enc n).size≤34359738368) (k:K (n3 n)):Ask 50 [str s] K:=by
 subst hs;exact use (Zi9 n hn) rfl k
def Y (l:List UInt8):List (List D):=l.map fun (x:UInt8)=> [D.v (.int .u8 (x.toNat:Int))]
theorem div256 (n i:Nat):n / 256 ^ i / 256=n / 256 ^ (i+1):=by rw [Nat.div_div_eq_div_mul,Nat.pow_succ]
theorem ZpU {n i:Nat} (h:n / 256 ^ i≠0):Y (digs (n / 256 ^ i))=Y (digs (n / 256 ^ (i+1)))++ [[D.v (.int .u8 ((n / 256 ^ i % 256:Nat):Int))]]:=by
 rw [ZcC h,div256]
 unfold Y
 rw [List.map_append]
 simp only [List.map_cons,List.map_nil,Zbr]
theorem Zmq (n:Nat):strOfNums ((digs n).map fun b:UInt8=>(b.toNat:Int))=enc n:=by
 apply ZbW
 rw [strOfNums_data,ZaY,List.map_map]
 have:((fun n:Int=>UInt8.ofNat n.toNat) ∘ fun b:UInt8=>(b.toNat:Int))=id:=by
  funext b
  simp [Function.comp]
 rw [this,List.map_id]
theorem ZoT:Tryz.prog.underlying 9=some .string:=by kernel_rfl
theorem ZjO:Tryz.prog.underlying 116=some (.slice 5):=by kernel_rfl
theorem top256 (n:Nat):n / 256 ^ (4*wlen 4 n)=0:=by
 apply Nat.div_eq_of_lt
 have:=lt_B n
 rwa [show (4294967296:Nat)=256 ^ 4 from rfl,← Nat.pow_mul] at this
set_option maxHeartbeats 1000000 in
theorem ZjV (n:Nat) (hn:wlen 4 n≤8589934592):Spec Tryz.prog Tab 57 [n3 n] (str (enc n)):=by
 have la:=Zaj n
 have h0:=top256 n
 have hw0:IntKind.i64.wrap (IntKind.i64.wrap (((W (w32 n)).length:Int)*4) - 1)=((4*wlen 4 n:Nat):Int) - 1:=by rw [la,wrap64 (_*4) (by omega) (by omega),wrap64 _ (by omega) (by omega)];omega
 refine Zf Tryz.func57 rfl rfl Tryz.ntmps57 rfl (by kernel_rfl) rfl rfl ?_
 refine⟨Nat,fun k=> [(0,n3 n),(3,.val (.one (.row 34 0))),(4,int ((k:Int) - 1))],
  fun k=> [(34,.row 5 1 0 (Y (digs (n / 256 ^ k))) true)],fun k=>k≤4*wlen 4 n,fun k=>k,4*wlen 4 n,?_,Nat.le_refl _,fun k hs=> ?_⟩
 ·constructor<;>(repeat' (first|exact rfl|exact True.intro|exact(by decide:0< 1)|apply And.intro))
  all_goals first
   |exact congrArg (fun n:Int=>D.v (.int .i64 n)) hw0.symm
   |exact⟨5,1,by show Ob.row _ 1 0 (Y (digs (n / 256 ^ (4*wlen 4 n)))) true=_;rw [h0,ZZ];rfl⟩
   |exact(show Y (digs (n / 256 ^ (4*wlen 4 n)))= [] by rw [h0,ZZ];rfl)
 have hd:(digs (n / 256 ^ k)).length≤4*wlen 4 n:=by
  rw [ZbV]
  refine Nat.lt_of_le_of_lt (Nat.div_le_self _ _) ?_
  have:=lt_B n
  rwa [show (4294967296:Nat)=256 ^ 4 from rfl,← Nat.pow_mul] at this
 have hYl:(Y (digs (n / 256 ^ k))).length=(digs (n / 256 ^ k)).length:=by unfold Y;rw [List.length_map]
 refine⟨fun e1=> ?_,fun e1=> ?_⟩
 ·have hk:0≤(k:Int) - 1:=of_decide_eq_true e1
  obtain⟨i,rfl⟩:∃ i,k=i+1:=⟨k - 1,by omega⟩
  have hki:((i+1:Nat):Int) - 1=(i:Int):=by omega
  have hwi:IntKind.i64.wrap (((i+1:Nat):Int) - 1 - 1)=(i:Int) - 1:=by rw [wrap64 _ (by omega) (by omega)];omega
  have hq:i / 4< wlen 4 n:=by omega
  have hr:i % 4< 4:=Nat.mod_lt _ (by omega)
  have hmul:IntKind.i64.wrap (((i % 4:Nat):Int)*8)=((i % 4*8:Nat):Int):=by rw [wrap64 _ (by omega) (by omega)];omega
  have hbyte:n / 4294967296 ^ (i / 4) % 4294967296 / 2 ^ (i % 4*8) % 256=n / 256 ^ i % 256:=by
   rw [← pow256,Zaf (W:=4294967296) (s:=4) rfl hr,Nat.div_add_mod]
  refine Zbp i 4 hki rfl (by omega) (by omega) ?_
  refine k_at [D.v (.int .u32 ((n / 4294967296 ^ (i / 4) % 4294967296:Nat):Int))] (Int.natCast_nonneg _) (by rw [Int.toNat_natCast];exact W_at (Z6 hq)) rfl ?_
  refine Zc6 i 4 hki rfl (by omega) ?_
  refine Zm7 (n / 4294967296 ^ (i / 4) % 4294967296) (i % 4*8) rfl hmul (by omega) ?_
  refine Zeq Zo9 u_u8 ((n / 256 ^ i % 256:Nat):Int) (by rw [Zn1,hbyte]) ?_
  have more:∀ h:n / 256 ^ i≠0,∀ env mem,entail env mem [(0,n3 n),(3,.val (.one (.row 34 0))),(4,int ((i:Int) - 1))] [(34,.row 5 1 0 (Y (digs (n / 256 ^ (i+1)))++ [[D.v (.int .u8 ((n / 256 ^ i % 256:Nat):Int))]]) true)]→entail env mem [(0,n3 n),(3,.val (.one (.row 34 0))),(4,int ((i:Int) - 1))] [(34,.row 5 1 0 (Y (digs (n / 256 ^ i))) true)]:=fun h env mem he=>by rw [ZpU h];exact he
  refine fork (fun e2=> ?_) (fun e2=> ?_)
  ·have hne:n / 256 ^ i≠0:=by
    intro h
    have h2:=of_decide_eq_true e2
    rw [hYl,← div256,h,Nat.zero_div,ZZ] at h2
    simp at h2
   refine⟨fun _=> ?_,fun e=>by simp at e⟩
   refine⟨⟨fun r hr=>by rw [List.mem_singleton.1 hr];rfl,?_,?_⟩,?_⟩
   ·rw [hYl];show ((digs (n / 256 ^ (i+1))).length+1)*1≤_;omega
   ·rw [hYl];show (digs (n / 256 ^ (i+1))).length+1≤_;omega
   refine⟨i,by omega,Nat.lt_succ_self i,more hne _ _ ?_⟩
   constructor<;>(repeat' (first|exact rfl|exact True.intro|apply And.intro))
   all_goals exact congrArg (fun n:Int=>D.v (.int .i64 n)) hwi.symm
  ·have h2:=of_decide_eq_false e2
   rw [hYl] at h2
   have hz:n / 256 ^ (i+1)=0:=Zce.1 (List.eq_nil_of_length_eq_zero (by omega))
   refine⟨fun e3=> ?_,fun e3=> ?_⟩
   ·have hne:n / 256 ^ i≠0:=by
     intro h
     have h3:=of_decide_eq_true e3
     rw [h] at h3
     simp at h3
    refine⟨⟨fun r hr=>by rw [List.mem_singleton.1 hr];rfl,?_,?_⟩,?_⟩
    ·rw [hYl];show ((digs (n / 256 ^ (i+1))).length+1)*1≤_;omega
    ·rw [hYl];show (digs (n / 256 ^ (i+1))).length+1≤_;omega
    refine⟨i,by omega,Nat.lt_succ_self i,more hne _ _ ?_⟩
    constructor<;>(repeat' (first|exact rfl|exact True.intro|apply And.intro))
    all_goals exact congrArg (fun n:Int=>D.v (.int .i64 n)) hwi.symm
   ·have hz2:n / 256 ^ i=0:=by
     have h3:=of_decide_eq_false e3
     rw [← div256] at hz
     omega
    refine⟨i,by omega,Nat.lt_succ_self i,?_⟩
    constructor<;>(repeat' (first|exact rfl|exact True.intro|apply And.intro))
    all_goals first
     |exact congrArg (fun n:Int=>D.v (.int .i64 n)) hwi.symm
     |exact(show Y (digs (n / 256 ^ i))=Y (digs (n / 256 ^ (i+1))) by rw [hz,hz2])
 ·have hk:k=0:=by have:=of_decide_eq_false e1;omega
  subst hk
  refine⟨_,⟨5,(digs n).map fun b:UInt8=>(b.toNat:Int),by rw [Nat.pow_zero,Nat.div_one];unfold Y;rw [List.map_map];rfl,ZjO,u_u8,ZoT,rfl⟩,?_⟩
  refine Eq.trans (b:=str (strOfNums ((digs n).map fun b:UInt8=>(b.toNat:Int)))) ?_ rfl
  rw [Zmq]
theorem ZnL {n:Nat} (hn:wlen 4 n≤8589934592) (k:K (str (enc n))):Ask 57 [n3 n] K:=use (ZjV n hn) rfl k
end
end Go.Proofs.YtjlhknppkodilaaGreatDoor.eng
